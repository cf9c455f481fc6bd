/- The framework of these walks, part 2 of 2: abstract values, judgements, rules of operations, own memory. No condition. -/
import Derived.Test.YtaiegjgiodlpaaaDoorZmP1
import Derived.Laws.CopyRow
import Derived.Laws.Externs
import Derived.Lib.BytesEntry
import Derived.Lib.Overlaps
import Derived.KernelRfl
import Derived.Laws.NewFold
import Derived.Laws.FloatArith
import Derived.ChangeArms
import Derived.SizedLaws
set_option linter.unusedVariables false
set_option linter.unusedSimpArgs false
/- The framework's twenty-third part: what a call owns, told by a list (each part apart from the others), rows that grow in place, nil or not. -/
namespace Go.Proofs.Zm
open Go.RowKit
set_option linter.unusedVariables false

/-- What is owned beside st0: blocks, each by its name (none: nothing) and its cells. -/
structure Sep (st0 st : St) (L : List (Option Nat × List D)) : Prop where
  ext : Ext st0 st
  own : ∀ id cs, (some id, cs) ∈ L → st.H id = some cs
  new : ∀ id cs, (some id, cs) ∈ L → st0.H id = none
  apart : (L.filterMap Prod.fst).Nodup

theorem Sep.nil (st : St) : Sep st st [] := ⟨Ext.refl st, fun _ _ h => (by cases h), fun _ _ h => (by cases h), List.nodup_nil⟩
theorem Sep.addNone {st0 st : St} {L : List (Option Nat × List D)} (h : Sep st0 st L) (cs : List D) : Sep st0 st ((none, cs) :: L) :=
  ⟨h.ext, fun id c hm => h.own id c (by simpa using hm), fun id c hm => h.new id c (by simpa using hm), by simpa using h.apart⟩
theorem Sep.mem_ids {L : List (Option Nat × List D)} {id : Nat} (h : id ∈ L.filterMap Prod.fst) : ∃ cs, (some id, cs) ∈ L := by
  obtain ⟨⟨o, cs⟩, h1, h2⟩ := List.mem_filterMap.1 h
  simp only at h2
  subst h2
  exact ⟨cs, h1⟩
theorem Sep.alloc {st0 st : St} {L : List (Option Nat × List D)} (h : Sep st0 st L) {id : Nat} (hf : Fresh st id) (cs : List D) : Sep st0 (st.setH id (some cs)) ((some id, cs) :: L) where
  ext := h.ext.fresh hf _
  own := fun i c hm => by
    rcases List.mem_cons.1 hm with e | hm
    · cases e; exact St.setH_self _ _ _
    · exact St.setH_new (h.own i c hm) hf
  new := fun i c hm => by
    rcases List.mem_cons.1 hm with e | hm
    · cases e; exact h.ext.none hf.1
    · exact h.new i c hm
  apart := by
    rw [List.filterMap_cons]
    simp only
    refine List.nodup_cons.2 ⟨fun hm => ?_, h.apart⟩
    obtain ⟨c, hc⟩ := Sep.mem_ids hm
    have := h.own _ _ hc
    rw [hf.1] at this
    cases this

theorem Sep.at_ {st0 st : St} {L : List (Option Nat × List D)} (h : Sep st0 st L) {i id : Nat} {cs : List D} (hi : L[i]? = some (some id, cs)) : st.H id = some cs := h.own _ _ (List.mem_of_getElem? hi)

theorem ids_split (L : List (Option Nat × List D)) (i id : Nat) (cs : List D) (hi : L[i]? = some (some id, cs)) (ha : (L.filterMap Prod.fst).Nodup) :
    (∀ (o : Option Nat) (c : List D), ((L.set i (o, c)).filterMap Prod.fst).Nodup ∨ ∃ j, o = some j ∧ j ≠ id ∧ j ∈ L.filterMap Prod.fst) ∧ ((L.eraseIdx i).filterMap Prod.fst).Nodup ∧
      (∀ x c, (some x, c) ∈ L.eraseIdx i → (some x, c) ∈ L ∧ x ≠ id) ∧ (∀ (o : Option Nat) (c : List D) x c', (some x, c') ∈ L.set i (o, c) → (o = some x ∧ c' = c) ∨ ((some x, c') ∈ L ∧ x ≠ id)) := by
  induction L generalizing i with
  | nil => simp at hi
  | cons p L ih =>
    obtain ⟨o1, c1⟩ := p
    cases i with
    | zero =>
      simp only [List.getElem?_cons_zero, Option.some.injEq, Prod.mk.injEq] at hi
      obtain ⟨rfl, rfl⟩ := hi
      have ha' : id ∉ L.filterMap Prod.fst ∧ (L.filterMap Prod.fst).Nodup := by
        rw [List.filterMap_cons] at ha
        simp only at ha
        exact List.nodup_cons.1 ha
      have hne : ∀ x c, (some x, c) ∈ L → x ≠ id := fun x c hx e => ha'.1 (List.mem_filterMap.2 ⟨_, hx, by rw [e]⟩)
      refine ⟨fun o c => ?_, ha'.2, fun x c hx => ⟨List.mem_cons_of_mem _ hx, hne x c hx⟩, fun o c x c' hx => ?_⟩
      · cases o with
        | none => left; simpa using ha'.2
        | some j =>
          by_cases hj : j ∈ L.filterMap Prod.fst
          · right
            refine ⟨j, rfl, fun e => ha'.1 (e ▸ hj), ?_⟩
            rw [List.filterMap_cons]; simp only; exact List.mem_cons_of_mem _ hj
          · left
            rw [List.set_cons_zero, List.filterMap_cons]; simp only
            exact List.nodup_cons.2 ⟨hj, ha'.2⟩
      · rw [List.set_cons_zero] at hx
        rcases List.mem_cons.1 hx with e | hx
        · left; cases e; exact ⟨rfl, rfl⟩
        · exact .inr ⟨List.mem_cons_of_mem _ hx, hne x c' hx⟩
    | succ i =>
      simp only [List.getElem?_cons_succ] at hi
      have hL : (L.filterMap Prod.fst).Nodup := by
        rw [List.filterMap_cons] at ha
        cases o1 with
        | none => exact ha
        | some j => exact (List.nodup_cons.1 ha).2
      obtain ⟨h1, h2, h3, h4⟩ := ih i hi hL
      have hidm : id ∈ L.filterMap Prod.fst := List.mem_filterMap.2 ⟨_, List.mem_of_getElem? hi, rfl⟩
      have ho1 : ∀ j, o1 = some j → j ∉ L.filterMap Prod.fst := fun j e => by
        subst e
        rw [List.filterMap_cons] at ha
        exact (List.nodup_cons.1 ha).1
      refine ⟨fun o c => ?_, ?_, fun x c hx => ?_, fun o c x c' hx => ?_⟩
      · rcases h1 o c with h | ⟨j, e, hj, hm⟩
        · cases o1 with
          | none => left; rw [List.set_cons_succ, List.filterMap_cons]; exact h
          | some q =>
            by_cases ho : o = some q
            · right
              subst ho
              refine ⟨q, rfl, fun e => ho1 q rfl (e ▸ hidm), ?_⟩
              rw [List.filterMap_cons]; simp
            · left
              rw [List.set_cons_succ, List.filterMap_cons]
              simp only
              refine List.nodup_cons.2 ⟨fun hm => ?_, h⟩
              obtain ⟨c2, hc2⟩ := Sep.mem_ids hm
              rcases h4 o c q c2 hc2 with ⟨e, _⟩ | ⟨e, _⟩
              · exact ho e
              · exact ho1 q rfl (List.mem_filterMap.2 ⟨_, e, rfl⟩)
        · right
          refine ⟨j, e, hj, ?_⟩
          rw [List.filterMap_cons]
          cases o1 with
          | none => exact hm
          | some q => exact List.mem_cons_of_mem _ hm
      · rw [List.eraseIdx_cons_succ, List.filterMap_cons]
        cases o1 with
        | none => exact h2
        | some q =>
          simp only
          refine List.nodup_cons.2 ⟨fun hm => ?_, h2⟩
          obtain ⟨c2, hc2⟩ := Sep.mem_ids hm
          exact ho1 q rfl (List.mem_filterMap.2 ⟨_, (h3 q c2 hc2).1, rfl⟩)
      · rw [List.eraseIdx_cons_succ] at hx
        rcases List.mem_cons.1 hx with e | hx
        · cases e
          exact ⟨List.mem_cons_self .., fun e => ho1 x rfl (e ▸ hidm)⟩
        · exact ⟨List.mem_cons_of_mem _ (h3 x c hx).1, (h3 x c hx).2⟩
      · rw [List.set_cons_succ] at hx
        rcases List.mem_cons.1 hx with e | hx
        · cases e
          exact .inr ⟨List.mem_cons_self .., fun e => ho1 x rfl (e ▸ hidm)⟩
        · rcases h4 o c x c' hx with h | ⟨h, hne⟩
          · exact .inl h
          · exact .inr ⟨List.mem_cons_of_mem _ h, hne⟩

/-- A part's cells are others now. -/
theorem Sep.put {st0 st : St} {L : List (Option Nat × List D)} (h : Sep st0 st L) {i id : Nat} {cs : List D} (hi : L[i]? = some (some id, cs)) (cs' : List D) : Sep st0 (st.setH id (some cs')) (L.set i (some id, cs')) := by
  obtain ⟨h1, h2, h3, h4⟩ := ids_split L i id cs hi h.apart
  refine ⟨h.ext.setH (h.new id cs (List.mem_of_getElem? hi)) _, fun x c hx => ?_, fun x c hx => ?_, ?_⟩
  · rcases h4 _ _ x c hx with ⟨e, rfl⟩ | ⟨hm, hne⟩
    · cases e; exact St.setH_self _ _ _
    · exact St.setH_ne (h.own x c hm) hne
  · rcases h4 _ _ x c hx with ⟨e, rfl⟩ | ⟨hm, hne⟩
    · cases e; exact h.new _ _ (List.mem_of_getElem? hi)
    · exact h.new x c hm
  · rcases h1 (some id) cs' with h | ⟨j, e, hj, _⟩
    · exact h
    · cases e; exact absurd rfl hj
/-- A part is another block now. -/
theorem Sep.swap {st0 st : St} {L : List (Option Nat × List D)} (h : Sep st0 st L) {i : Nat} {o : Option Nat} {cs : List D} (hi : L[i]? = some (o, cs)) {id2 : Nat} (hf : Fresh st id2) (cs' : List D) :
    Sep st0 (st.setH id2 (some cs')) (L.set i (some id2, cs')) := by
  have hid2 : ∀ x c, (some x, c) ∈ L → x ≠ id2 := fun x c hx e => by
    have := h.own x c hx
    rw [e, hf.1] at this
    cases this
  have hsub : ∀ x c, (some x, c) ∈ L.set i (some id2, cs') → (x = id2 ∧ c = cs') ∨ (some x, c) ∈ L := fun x c hx => by
    rcases List.mem_or_eq_of_mem_set hx with hx | e
    · exact .inr hx
    · cases e; exact .inl ⟨rfl, rfl⟩
  refine ⟨h.ext.fresh hf _, fun x c hx => ?_, fun x c hx => ?_, ?_⟩
  · rcases hsub x c hx with ⟨rfl, rfl⟩ | hm
    · exact St.setH_self _ _ _
    · exact St.setH_new (h.own x c hm) hf
  · rcases hsub x c hx with ⟨rfl, rfl⟩ | hm
    · exact h.ext.none hf.1
    · exact h.new x c hm
  · cases o with
    | some id =>
      obtain ⟨h1, h2, h3, h4⟩ := ids_split L i id cs hi h.apart
      rcases h1 (some id2) cs' with h' | ⟨j, e, hj, hm⟩
      · exact h'
      · cases e
        obtain ⟨c, hc⟩ := Sep.mem_ids hm
        exact absurd rfl (hid2 _ c hc)
    | none =>
      -- a part of nothing becomes a block
      have key : ∀ (L : List (Option Nat × List D)) (i : Nat), L[i]? = some (none, cs) → (L.filterMap Prod.fst).Nodup → (∀ x c, (some x, c) ∈ L → x ≠ id2) → ((L.set i (some id2, cs')).filterMap Prod.fst).Nodup := by
        intro L
        induction L with
        | nil => intro i hi; simp at hi
        | cons p L ih =>
          obtain ⟨o1, c1⟩ := p
          intro i hi ha hne
          cases i with
          | zero =>
            simp only [List.getElem?_cons_zero, Option.some.injEq, Prod.mk.injEq] at hi
            obtain ⟨rfl, rfl⟩ := hi
            rw [List.set_cons_zero, List.filterMap_cons]
            simp only
            refine List.nodup_cons.2 ⟨fun hm => ?_, by simpa using ha⟩
            obtain ⟨c, hc⟩ := Sep.mem_ids hm
            exact hne _ c (List.mem_cons_of_mem _ hc) rfl
          | succ i =>
            simp only [List.getElem?_cons_succ] at hi
            rw [List.set_cons_succ, List.filterMap_cons]
            cases o1 with
            | none => exact ih i hi (by simpa using ha) fun x c hx => hne x c (List.mem_cons_of_mem _ hx)
            | some q =>
              rw [List.filterMap_cons] at ha
              simp only at ha ⊢
              obtain ⟨ha1, ha2⟩ := List.nodup_cons.1 ha
              refine List.nodup_cons.2 ⟨fun hm => ?_, ih i hi ha2 fun x c hx => hne x c (List.mem_cons_of_mem _ hx)⟩
              obtain ⟨c, hc⟩ := Sep.mem_ids hm
              rcases List.mem_or_eq_of_mem_set hc with hc | e
              · exact ha1 (List.mem_filterMap.2 ⟨_, hc, rfl⟩)
              · cases e; exact hne id2 c1 (List.mem_cons_self ..) rfl
      exact key L i hi h.apart hid2
/-- A part is owned no more. -/
theorem Sep.drop {st0 st : St} {L : List (Option Nat × List D)} (h : Sep st0 st L) {i id : Nat} {cs : List D} (hi : L[i]? = some (some id, cs)) : Sep st0 (st.setH id none) (L.eraseIdx i) := by
  obtain ⟨h1, h2, h3, h4⟩ := ids_split L i id cs hi h.apart
  exact ⟨h.ext.setH (h.new id cs (List.mem_of_getElem? hi)) _, fun x c hx => St.setH_ne (h.own x c (h3 x c hx).1) (h3 x c hx).2, fun x c hx => h.new x c (h3 x c hx).1, h2⟩
theorem Sep.erase {st0 st : St} {L : List (Option Nat × List D)} (h : Sep st0 st L) (i : Nat) : Sep st0 st (L.eraseIdx i) := by
  have hs : (L.eraseIdx i).Sublist L := List.eraseIdx_sublist L i
  exact ⟨h.ext, fun x c hx => h.own x c (hs.subset hx), fun x c hx => h.new x c (hs.subset hx), (hs.filterMap _).nodup h.apart⟩
/-- A row that is owned: nil, or a block's beginning. -/
def orow : Option Nat → Nat → Nat → D
  | some id, m, c => .mrow id 0 m c
  | none, _, _ => .v (.slice none 0 0)
/-- Such a row's cells: m elements of k cells each are told, there is room for c. -/
structure GRow (o : Option Nat) (full : List D) (k m c : Nat) (cells : List D) : Prop where
  len : full.length = c * k
  room : m ≤ c
  nil : o = none → c = 0
  cells : full.take (m * k) = cells
theorem GRow.empty (k : Nat) : GRow none [] k 0 0 [] := ⟨by simp, Nat.le_refl _, fun _ => rfl, by simp⟩
theorem GRow.length {o : Option Nat} {full : List D} {k m c : Nat} {cells : List D} (h : GRow o full k m c cells) : cells.length = m * k := by
  rw [← h.cells, List.length_take, h.len]
  exact Nat.min_eq_left (Nat.mul_le_mul_right _ h.room)
theorem GRow.get {o : Option Nat} {full : List D} {k m c : Nat} {cells : List D} (h : GRow o full k m c cells) {j : Nat} (hj : j < m * k) : full[j]? = cells[j]? := by
  rw [← h.cells, List.getElem?_take, if_pos hj]
theorem GRow.full {id : Nat} {full : List D} {k c : Nat} (h : full.length = c * k) : GRow (some id) full k c c full := ⟨h, Nat.le_refl _, fun e => (by cases e), by rw [← h, List.take_length]⟩

theorem zero_vrs {G : Gh} {k : Nat} {z : List D} {zv : Value} (k0 : 0 < k) (hzs : zv.cells.size = k) (hzz : cellsD (.v zv) = z) (q : Nat) : VRs G (List.replicate q z).flatten (Builtin.zeroCells zv.cells q).toList := by
  have hzc := cellsD_ok (VR.v (G := G) zv)
  rw [hzz] at hzc
  have hzl : z.length = k := by rw [hzc.1, Array.length_toList, hzs]
  have hcell : ∀ j, j < q * k → (Builtin.zeroCells zv.cells q).toList[j]? = zv.cells.toList[j % k]? := fun j hj => by
    rw [← hzs] at hj ⊢
    simp only [Builtin.zeroCells, Array.toList_map, Array.toList_range, List.getElem?_map, List.getElem?_range hj, Option.map_some]
    have hlt : j % zv.cells.size < zv.cells.size := Nat.mod_lt _ (by omega)
    rw [Array.getElem?_toList, Array.getElem?_eq_getElem hlt, getElem!_pos zv.cells _ hlt]
  have hzlen : (Builtin.zeroCells zv.cells q).toList.length = q * k := by rw [Array.length_toList, size_zeroCells, hzs]
  have hfl : (List.replicate q z).flatten.length = q * k := by simp [List.length_flatten, hzl]
  refine ⟨by rw [hfl, hzlen], fun j d u q1 q2 => ?_⟩
  have hj : j < q * k := by rw [← hfl]; exact (List.getElem?_eq_some_iff.1 q1).1
  have hi' : j / k < q := Nat.div_lt_of_lt_mul (by rw [Nat.mul_comm]; exact hj)
  have hqq : j / k * k + j % k = j := by rw [Nat.mul_comm]; exact Nat.div_add_mod j k
  have hqz : j % k < z.length := by rw [hzl]; exact Nat.mod_lt _ k0
  have hg := flatten_get (k := k) (List.replicate q z) (j / k) (j % k) z z[j % k] (fun x hx => by rw [List.eq_of_mem_replicate hx]; exact hzl) (by rw [List.getElem?_replicate, if_pos hi']) (List.getElem?_eq_getElem hqz)
  rw [hqq, q1] at hg
  cases hg
  rw [hcell j hj] at q2
  exact hzc.2 _ _ u (List.getElem?_eq_getElem hqz) q2

section
variable {P : Program} {w0 : World} {n : Nat} {env : Env} {st st0 : St} {o : Oper} {K : D → St → Prop}

/-- A new block behind a draw, of old cells and new ones, and noughts. -/
theorem grown_full {G : Gh} {w : World} (h : Rel w0 G st w) {e k cp m : Nat} {z : List D} {zv : Value} (k0 : 0 < k) (hzs : zv.cells.size = k) (hzz : cellsD (.v zv) = z) (olds news : List Value) (cs : List D) (hv : VRs G cs (olds ++ news)) (h1 : ∀ u ∈ olds ++ news, u.oneCell' = true) (hz1 : ∀ u ∈ zv.cells.toList, u.oneCell' = true)
    (hl : (olds ++ news).length = m * k) (hcp : m ≤ cp) (hcm : cp ≤ maxLen) :
    ∃ G', G.le G' ∧ Rel w0 G' (st.setH G.nx (some (cs ++ (List.replicate (cp - m) z).flatten))) (w.drew.alloc (.cells (olds.toArray ++ news.toArray ++ Builtin.zeroCells zv.cells (cp - m)) e)) ∧ VR G' (.mrow G.nx 0 m cp) (.slice (some ⟨w.heap.size, 0, none⟩) m cp) := by
  let cl : List Value := olds ++ news ++ (Builtin.zeroCells zv.cells (cp - m)).toList
  have hzc : ∀ u ∈ (Builtin.zeroCells zv.cells (cp - m)).toList, u.oneCell' = true := fun u hu => by
    simp only [Builtin.zeroCells, Array.toList_map, Array.toList_range, List.mem_map, List.mem_range] at hu
    obtain ⟨q, hq, rfl⟩ := hu
    have hlt : q % zv.cells.size < zv.cells.size := Nat.mod_lt _ (by omega)
    rw [getElem!_pos zv.cells _ hlt]
    exact hz1 _ (by rw [Array.mem_toList_iff]; exact Array.getElem_mem hlt)
  have hvv : VRs G (cs ++ (List.replicate (cp - m) z).flatten) cl := VRs.append hv (zero_vrs k0 hzs hzz _)
  obtain ⟨G', hle, hrel, hnx, hrho⟩ := (h.drawn (w.drawn + 1)).own (w1 := w.drew.alloc (.cells (olds.toArray ++ news.toArray ++ Builtin.zeroCells zv.cells (cp - m)) e)) cl _ e (Nat.le_of_eq hvv.1) (fun u hu => by
      simp only [cl, List.mem_append] at hu
      rcases hu with hu | hu
      · exact h1 u (List.mem_append.2 hu)
      · exact hzc u hu) (fun j d u a b => hvv.2 j d u a b) (by show w.heap.push _ = w.heap.push _; congr 2; simp [cl]) rfl rfl rfl
  refine ⟨G', hle, hrel, ?_⟩
  have : G'.rho G.nx = w.heap.size := hrho
  rw [← this]
  exact .mrow G.nx 0 m cp (by rw [hnx]; exact Nat.lt_succ_self _) hcp hcm

/-- 'append(s, x...)': s is owned, with room or without, or nil. -/
theorem zv_sapp {t e k by_ tk m c i : Nat} {z : List D} {s x : Operand} {ob : Option Nat} {full cells : List D} {L : List (Option Nat × List D)} {ys : List (List D)} (hop : o.op = .call { callee := .builtin .append, args := #[s, x], argTypes := #[t, t] })
    (he : ElemOk P e k by_ z) (hz1 : ∀ d ∈ z, oneD d = true) (ht : P.underlying t = some (.slice e)) (hs : ev env s = some (orow ob m c)) (hS : Sep st0 st L) (hi : L[i]? = some (ob, full)) (hg : GRow ob full k m c cells) (hx : ev env x = some (.row ys k tk)) (hb : (m + ys.length) * by_ ≤ 140737488355328)
    (h : ∀ o' c' full' st', Sep st0 st' (L.set i (o', full')) → GRow o' full' k (m + ys.length) c' (cells ++ ys.flatten) → K (orow o' (m + ys.length) c') st') : ZVal P w0 n o env st K := by
  intro G w a hr her
  have hvs := ev_ok her hs
  have hvx := ev_ok her hx
  generalize hus : a.eval s = us at hvs
  generalize hux : a.eval x = ux at hvx
  have hrun : ∀ {v' w'}, (Builtin.append_ #[t, t] o.type #[us, ux]).run P w = .ok v' w' → (execOp a.eval o).run P w = .ok (.value v') w' := fun hq => by
    simp [execOp, hop, resolve, invoke, builtin, hus, hux, hq]
  have he' := he
  obtain ⟨⟨ti, zv, hti, hk, hby, hz, hzs, hzz⟩, k0, b0⟩ := he
  have hmax : m + ys.length ≤ 140737488355328 := Nat.le_trans (Nat.le_mul_of_pos_right _ b0) hb
  have hzone := zv_cells_one hzz hz1
  have hcl := hg.length
  -- nothing is added
  by_cases hy0 : ys = []
  · subst hy0
    simp only [List.length_nil, Nat.add_zero, List.flatten_nil, List.append_nil] at h
    have hsame : L.set i (ob, full) = L := by
      apply List.ext_getElem?; intro j; rw [List.getElem?_set]
      split
      · rename_i hj; subst hj; rw [if_pos (List.getElem?_eq_some_iff.1 hi).1, hi]
      · rfl
    have hK := h ob c full st (by rw [hsame]; exact hS) hg
    refine ⟨us, w, G, _, _, hrun ?_, .refl G, hr, hvs, hK⟩
    have hx0 : ∃ bx cx, ux = .slice bx 0 cx := by
      cases hvx with
      | row _ _ _ a2 nn c2 u hn => simp at hn; subst hn; exact ⟨_, _, rfl⟩
      | rowNil => exact ⟨_, _, rfl⟩
    obtain ⟨bx, cx, rfl⟩ := hx0
    cases ob with
    | none =>
      have := hvs.eq_v; subst this
      cases bx <;> simp [Builtin.append_, run_underlying ht, sizeOf, typeInfo, hti, Builtin.lenOf, Builtin.firstCells, loadCells, loadCellsFrom, storeCells]
    | some id =>
      cases hvs with
      | mrow _ _ _ _ hid hmc hm63 => cases bx <;> simp [Builtin.append_, run_underlying ht, sizeOf, typeInfo, hti, Builtin.lenOf, Builtin.firstCells, hmc, storeCells, loadCells, loadCellsFrom]
  have hy1 : 0 < ys.length := List.length_pos_iff.2 hy0
  cases hvx with
  | rowNil => exact absurd rfl hy0
  | row _ _ _ a2 nn c2 u hn hc2 hm63' hkk hcell h1 hvv htt =>
    obtain rfl : nn = ys.length := hn.symm
    obtain ⟨e1, e2, e3, e4, news, hf, hM⟩ := (VR.row (G := G) ys k tk a2 ys.length c2 u rfl hc2 hm63' hkk hcell h1 hvv htt).flat
    have hff := hf.flat k0
    have R := appRuns_slice (w := w) he' ht o.type a2 ys.length c2 news hf.len (fun j u hj => hr.mem _ _ (hM j u hj)) hf.one
    have hge := grownCap_ge w (m + ys.length) c e
    have hcm := grownCap_le_maxLen w (m + ys.length) c e (by unfold maxLen; omega)
    cases ob with
    | none =>
      have := hvs.eq_v; subst this
      have hc0 := hg.nil rfl
      have hm0 : m = 0 := by have := hg.room; omega
      subst hc0; subst hm0
      have hcells : cells = [] := by have := hg.length; simpa using this
      subst hcells
      have hq := R.grow none 0 0 [] zv ti hti hz (by simp [Builtin.firstCells, loadCells, loadCellsFrom]) (by omega) hb
      obtain ⟨G', hle, hrel, hv⟩ := grown_full (e := e) (cp := grownCap w (0 + ys.length) 0 e) (m := 0 + ys.length) hr k0 hzs hzz [] news ys.flatten (by simpa using hff) (fun u hu => hf.one u (by simpa using hu)) hzone (by rw [List.nil_append, hf.len, Nat.zero_add]) hge hcm
      have hw : some ((none : Option Nat), full) = L[i]? := hi.symm
      refine ⟨_, _, G', _, _, hrun (by rw [e1]; exact hq), hle, hrel, hv, h (some G.nx) _ _ _ (hS.swap hi hr.freshName _) ⟨?_, hge, fun e => (by cases e), ?_⟩⟩
      · have hzl : z.length = k := by rw [← hzs, ← hzz, (cellsD_ok (VR.v (G := G) zv)).1, Array.length_toList]
        rw [List.length_append, hff.1, hf.len, List.length_flatten]
        simp only [List.map_replicate, List.sum_replicate_nat, hzl]
        rw [← Nat.add_mul]
        congr 1
        omega
      · rw [List.nil_append, List.take_append_of_le_length (by rw [hff.1, hf.len, Nat.zero_add]; exact Nat.le_refl _), List.take_of_length_le (by rw [hff.1, hf.len, Nat.zero_add]; exact Nat.le_refl _)]
    | some id =>
      have hH := hS.at_ hi
      cases hvs with
      | mrow _ _ _ _ hid hmc hm63 =>
        obtain ⟨cc, e', hcc, hl, hc1, hcv⟩ := hr.ex id full hH
        have hmk : (m + ys.length) * k = m * k + ys.length * k := Nat.add_mul _ _ _
        have hfl := hg.len
        have hmc2 : m * k ≤ c * k := Nat.mul_le_mul_right _ hmc
        have htl : (cc.take (m * k)).length = m * k := by rw [List.length_take]; omega
        have hvtake : VRs G cells (cc.take (m * k)) := ⟨by rw [htl, hcl], fun j d u q1 q2 => by
          rw [← hg.cells] at q1
          rw [List.getElem?_take] at q1 q2
          split at q1
          · rename_i hj; rw [if_pos hj] at q2; exact hcv j d u q1 q2
          · cases q1⟩
        by_cases hroom : m + ys.length ≤ c
        · have hrk : (m + ys.length) * k ≤ c * k := Nat.mul_le_mul_right _ hroom
          have hq := R.room (G.rho id) m c cc.toArray e' (0, 0) hcc (Free.zero _) hroom (by rw [hf.len]; simp; omega)
          rw [← e1] at hq
          have hrel := hr.put (w1 := w.setRow (G.rho id) (cc.take (m * k) ++ news ++ cc.drop (m * k + news.length)).toArray) (cs' := cells ++ ys.flatten ++ full.drop ((m + ys.length) * k)) hH hcc (setRow_heap w _ cc.toArray _ e' _ hcc)
            (by rw [List.length_append, List.length_append, List.length_append, List.length_append, htl, hff.1, hf.len, hcl, List.length_drop, List.length_drop]; omega)
            (fun u hu => by
              simp only [List.mem_append] at hu
              rcases hu with (hu | hu) | hu
              · exact hc1 u (List.mem_of_mem_take hu)
              · exact hf.one u hu
              · exact hc1 u (List.mem_of_mem_drop hu))
            (by
              have hv := VRs.append hvtake hff
              intro j d u a b
              by_cases hj : j < (m + ys.length) * k
              · rw [List.getElem?_append_left (by rw [hv.1, List.length_append, htl, hf.len]; omega)] at a
                rw [List.getElem?_append_left (by rw [List.length_append, htl, hf.len]; omega)] at b
                exact hv.2 j d u a b
              · have el : (cells ++ ys.flatten).length = (m + ys.length) * k := by rw [hv.1, List.length_append, htl, hf.len]; omega
                have er : (cc.take (m * k) ++ news).length = (m + ys.length) * k := by rw [List.length_append, htl, hf.len]; omega
                rw [List.getElem?_append_right (by rw [el]; omega), el, List.getElem?_drop, Nat.add_sub_cancel' (by omega)] at a
                rw [List.getElem?_append_right (by rw [er]; omega), er, List.getElem?_drop, hf.len, show m * k + ys.length * k + (j - (m + ys.length) * k) = j by omega] at b
                exact hcv j d u a b)
            (fun q hq => setRow_other w _ q _ hq) (by simp) rfl rfl rfl
          have hel : (cells ++ ys.flatten).length = (m + ys.length) * k := by rw [List.length_append, hcl, hff.1, hf.len, hmk]
          refine ⟨_, _, G, _, _, hrun (by simpa using hq), .refl G, hrel, VR.mrow id 0 (m + ys.length) c hid hroom hm63, h (some id) c _ _ (hS.put hi _) ⟨?_, hroom, fun e => (by cases e), ?_⟩⟩
          · rw [List.length_append, hel, List.length_drop]; omega
          · rw [List.take_append_of_le_length (Nat.le_of_eq hel.symm), List.take_of_length_le (Nat.le_of_eq hel)]
        · have holds : ∀ j u, (cc.take (m * k))[j]? = some u → w.cell? ((⟨G.rho id, 0, none⟩ : Addr).add j) = some u := fun j u hj => by
            rw [List.getElem?_take] at hj
            split at hj
            · rw [add_plain, cell_heap hcc]; exact hj
            · cases hj
          have hq := R.grow (some ⟨G.rho id, 0, none⟩) m c (cc.take (m * k)) zv ti hti hz (by rw [hk]; exact run_firstCells_some (P := P) w.drew k m _ _ _ _ htl (by simpa using holds)) (by omega) hb
          have hel : (cells ++ ys.flatten).length = (m + ys.length) * k := by rw [List.length_append, hcl, hff.1, hf.len, hmk]
          obtain ⟨G', hle, hrel, hv⟩ := grown_full (e := e) (cp := grownCap w (m + ys.length) c e) (m := m + ys.length) hr k0 hzs hzz (cc.take (m * k)) news (cells ++ ys.flatten) (VRs.append hvtake hff) (fun u hu => by
            rcases List.mem_append.1 hu with hu | hu
            · exact hc1 u (List.mem_of_mem_take hu)
            · exact hf.one u hu) hzone (by rw [List.length_append, htl, hf.len, Nat.add_mul]) hge hcm
          refine ⟨_, _, G', _, _, hrun (by rw [e1]; exact hq), hle, hrel, hv, h (some G.nx) _ _ _ (hS.swap hi hr.freshName _) ⟨?_, hge, fun e => (by cases e), ?_⟩⟩
          · have hzl : z.length = k := by rw [← hzs, ← hzz, (cellsD_ok (VR.v (G := G) zv)).1, Array.length_toList]
            rw [List.length_append, hel, List.length_flatten]
            simp only [List.map_replicate, List.sum_replicate_nat, hzl]
            rw [← Nat.add_mul]
            congr 1
            omega
          · rw [List.take_append_of_le_length (Nat.le_of_eq hel.symm), List.take_of_length_le (Nat.le_of_eq hel)]
end
end Go.Proofs.Zm
/- The framework's twenty-fourth part: owned rows given away for reading; elements and cuts of rows by the operation's form. -/
namespace Go.Proofs.Zm
open Go.RowKit
set_option linter.unusedVariables false

/-- Slots behind an owned row's giving away. -/
def FzO (ob : Option Nat) (m c : Nat) (xs : List (List D)) (k : Nat) (env : Env) (ks : List Nat) (env1 : Env) : Prop :=
  ∀ t d', zlook env1 t = some d' → ∃ d, zlook env t = some d ∧ (d' = d ∨ (d = orow ob m c ∧ d' = .row xs k 0))
section
variable {ob : Option Nat} {m c : Nat} {xs : List (List D)} {k : Nat} {env : Env}
theorem fzo_nil : FzO ob m c xs k env [] [] := fun t d h => by simp [zlook] at h
theorem fzo_cons {s : Nat} {ks : List Nat} {d d' : D} {r : Env} (h : zlook env s = some d) (hd : d' = d ∨ (d = orow ob m c ∧ d' = .row xs k 0)) (hs : FzO ob m c xs k env ks r) : FzO ob m c xs k env (s :: ks) ((s, d') :: r) := fun t d2 e => by
  unfold zlook at e
  split at e
  · rename_i hk; subst hk; cases e; exact ⟨d, h, hd⟩
  · exact hs t d2 e
theorem fzo_row {s : Nat} {ks : List Nat} {r : Env} (h : zlook env s = some (orow ob m c)) (hs : FzO ob m c xs k env ks r) : FzO ob m c xs k env (s :: ks) ((s, .row xs k 0) :: r) := fzo_cons h (.inr ⟨rfl, rfl⟩) hs
theorem fzo_same {s : Nat} {ks : List Nat} {d : D} {r : Env} (h : zlook env s = some d) (hs : FzO ob m c xs k env ks r) : FzO ob m c xs k env (s :: ks) ((s, d) :: r) := fzo_cons h (.inl rfl) hs
end

section
variable {P : Program} {w0 : World} {n : Nat} {env : Env} {st st0 : St} {Q Q1 : ZPost} {ops : Array Oper} {t : Nat} {rest : List Oper} {x y z : Operand} {t1 t2 ty : TypeId} {pos : String} {after : Array Edge}

theorem flatten_len {k : Nat} (xs : List (List D)) (hk : ∀ x ∈ xs, x.length = k) : xs.flatten.length = xs.length * k := flatten_length hk

/-- What is known of an owned row, given away for reading. -/
theorem sfreeze_main {G : Gh} {w : World} {ob : Option Nat} {full cells : List D} {k m c i : Nat} {L : List (Option Nat × List D)} {tmps : Array Value} {ks : List Nat} {env1 : Env} (xs : List (List D)) (k0 : 0 < k) (hS : Sep st0 st L) (hi : L[i]? = some (ob, full)) (hg : GRow ob full k m c cells)
    (hx : xs.flatten = cells) (hk : ∀ x ∈ xs, x.length = k) (hE : FzO ob m c xs k env ks env1) (hr : Rel w0 G st w) (he : ER G n env tmps) :
    ∃ G' st', G.le G' ∧ Rel w0 G' st' w ∧ ER G' n env1 tmps ∧ Sep st0 st' (L.eraseIdx i) := by
  have hxl : xs.length = m := by
    have h1 := flatten_len xs hk
    rw [hx, hg.length] at h1
    exact (Nat.eq_of_mul_eq_mul_right k0 h1).symm
  cases ob with
  | some id =>
    have hH := hS.at_ hi
    obtain ⟨G', hle, hrel, hnx, c', hl, h1, hv, hM, hrho⟩ := hr.freeze hH
    refine ⟨G', _, hle, hrel, ?_, hS.drop hi⟩
    have hfe : FrzE id full env1 env := fun s d' e => by
      obtain ⟨d, h1, h2⟩ := hE s d' e
      refine ⟨d, h1, ?_⟩
      rcases h2 with rfl | ⟨rfl, rfl⟩
      · exact .same _
      · exact Frz.mrow 0 m c k xs hxl hk (by rw [List.drop_zero, hg.cells, hx])
    exact hfe.ok hle hrho hl h1 hv hM he
  | none =>
    refine ⟨G, st, .refl G, hr, ⟨he.size, he.gl, fun s d' e => ?_⟩, hS.erase i⟩
    obtain ⟨d, h1, h2⟩ := hE s d' e
    obtain ⟨u, hu, hv⟩ := he.at_ s d h1
    refine ⟨u, hu, ?_⟩
    rcases h2 with rfl | ⟨rfl, rfl⟩
    · exact hv
    · have hm : m = 0 := by have := hg.nil rfl; have := hg.room; omega
      rw [hm] at hxl
      have : xs = [] := List.length_eq_zero_iff.1 hxl
      subst this
      have := hv.eq_v
      subst this
      exact .rowNil k 0 (.inl rfl)
theorem zr_sfreeze {cd : Code} (i : Nat) {ob : Option Nat} {full cells : List D} {k m c : Nat} {L : List (Option Nat × List D)} {env1 : Env} (ks : List Nat) (xs : List (List D)) (k0 : 0 < k) (hS : Sep st0 st L) (hi : L[i]? = some (ob, full)) (hg : GRow ob full k m c cells)
    (hx : xs.flatten = cells) (hk : ∀ x ∈ xs, x.length = k) (hE : FzO ob m c xs k env ks env1) (h : ∀ st', Sep st0 st' (L.eraseIdx i) → ZWp P w0 n cd Q env1 st') : ZWp P w0 n cd Q env st := by
  intro G w a hr he hd
  obtain ⟨G', st', hle, hr', he', hS'⟩ := sfreeze_main xs k0 hS hi hg hx hk hE hr he
  exact Code.wp_mono (Outc.mono hle (fun _ _ _ h => h)) (h st' hS' G' w a hr' he' hd)
theorem zo_sfreeze {l : List Oper} (i : Nat) {ob : Option Nat} {full cells : List D} {k m c : Nat} {L : List (Option Nat × List D)} {env1 : Env} (ks : List Nat) (xs : List (List D)) (k0 : 0 < k) (hS : Sep st0 st L) (hi : L[i]? = some (ob, full)) (hg : GRow ob full k m c cells)
    (hx : xs.flatten = cells) (hk : ∀ x ∈ xs, x.length = k) (hE : FzO ob m c xs k env ks env1) (h : ∀ st', Sep st0 st' (L.eraseIdx i) → ZOps P w0 n ops l Q env1 st') : ZOps P w0 n ops l Q env st := by
  intro G w a hr he hd
  obtain ⟨G', st', hle, hr', he', hS'⟩ := sfreeze_main xs k0 hS hi hg hx hk hE hr he
  exact wpList_mono (Outc.mono hle (fun _ _ _ h => h)) (fun c a w h => h.elim) l a w (h st' hS' G' w a hr' he' hd)

/-- The literal nil, as an owned row. -/
theorem zr_snil {cd : Code} (s : Nat) (h : zlook env s = some (.v (.slice none 0 0))) (hk : ZWp P w0 n cd Q ((s, orow none 0 0) :: env) st) : ZWp P w0 n cd Q env st :=
  hk.weaken fun t d e => by
    unfold zlook at e
    split at e
    · rename_i hs; subst hs; cases e; exact h
    · exact e

/-- Bytes as cells. -/
def byteC (l : List UInt8) : List D := l.map fun b => .v (.int .u8 (b.toNat : Int))
theorem bytesD_flat (l : List UInt8) : (bytesD l).flatten = byteC l := by
  induction l with
  | nil => rfl
  | cons b l ih => simp only [bytesD, List.map_cons, List.flatten_cons, byteC] at ih ⊢; rw [ih]; rfl
theorem byteC_append (l m : List UInt8) : byteC (l ++ m) = byteC l ++ byteC m := by simp [byteC]
theorem byteC_length (l : List UInt8) : (byteC l).length = l.length := by simp [byteC]
theorem bytesD_one (l : List UInt8) : ∀ x ∈ bytesD l, x.length = 1 := fun x hx => by
  obtain ⟨b, _, rfl⟩ := List.mem_map.1 hx; rfl

theorem zs_index_mrow0 {j' : Nat} {e k id m c : Nat} {ik : IntKind} {j : Int} (ht : Nat.ble (t + 1) n = true) (hx : ev env x = some (.mrow id 0 m c)) (hy : ev env y = some (.v (.int ik j))) (ht1 : P.underlying t1 = some (.slice e)) (hi : ∃ i, P.info? e = some i ∧ i.size = k) (h0 : 0 ≤ j) (h1 : j < m)
    (ej : j.toNat = j') (hk : ZOps P w0 n ops rest Q ((t, .ptr id (j' * k)) :: env) st) : ZOps P w0 n ops (⟨some t, .indexAddr t1 x y, ty, pos, after, none⟩ :: rest) Q env st := by
  subst ej
  obtain ⟨i, hi1, hi2⟩ := hi
  have := zp_index_mrow (P := P) (o := ⟨some t, .indexAddr t1 x y, ty, pos, after, none⟩) rfl ht1 hi1 hi2 hx hy h0 h1
  rw [Nat.zero_add] at this
  exact zo_pure0 rfl rfl (Nat.le_of_ble_eq_true ht) this hk
/-- The literal nil, cut from its beginning on. -/
theorem zs_len_orow {e : TypeId} {ob : Option Nat} {m c : Nat} (ht : Nat.ble (t + 1) n = true) (hx : ev env x = some (orow ob m c)) (hm : ob = none → m = 0) (ht1 : P.underlying t1 = some (.slice e)) (hk : ZOps P w0 n ops rest Q ((t, .v (.int .i64 (m : Nat))) :: env) st) :
    ZOps P w0 n ops (⟨some t, .call { callee := .builtin .len, args := #[x], argTypes := #[t1] }, ty, pos, after, none⟩ :: rest) Q env st := by
  cases ob with
  | some id => exact zo_pure0 rfl rfl (Nat.le_of_ble_eq_true ht) (zp_len_mrow rfl ht1 hx) hk
  | none =>
    have := hm rfl; subst this
    exact zo_pure0 rfl rfl (Nat.le_of_ble_eq_true ht) (zp_len_nil rfl ht1 hx) hk
end
/-- Arguments as slots. -/
def argE : Nat → List D → Env
  | _, [] => []
  | k, d :: ds => (k, d) :: argE (k + 1) ds
theorem argE_eq : ∀ (k : Nat) (ds : List D), (ds.zipIdx k).map (fun p => (p.2, p.1)) = argE k ds
  | _, [] => rfl
  | k, d :: ds => by rw [List.zipIdx_cons, List.map_cons, argE_eq (k + 1) ds]; rfl
theorem sound_ofA {P : Program} {f : FuncId} {fn : Func} {c : Code} {rs : List ResultVar} {spec : ZSpec} (hf : P.funcs[f]? = some fn) (hb : fn.body = some c) (hrs : fn.results = rs.toArray)
    (h : ∀ w0 args st K, spec args st K → args.length ≤ fn.ntmps ∧ ZWp P w0 fn.ntmps c (ZRet P rs (KE K)) (argE 0 args) st) : SoundF P f spec :=
  sound_ofE hf hb hrs fun w0 args st K hs => by rw [argE_eq]; exact h w0 args st K hs
theorem GRow.nil0 {o : Option Nat} {full : List D} {k m c : Nat} {cells : List D} (h : GRow o full k m c cells) : o = none → m = 0 := fun e => by have := h.nil e; have := h.room; omega
end Go.Proofs.Zm
/- The framework's twenty-fifth part: regions that draw their order, beside own memory that stands through them (B). -/
namespace Go.Proofs.Zm
open Go.RowKit
set_option linter.unusedVariables false

/-- Abstract values that stand for one value alone. -/
def exactD : D → Bool
  | .v _ | .mp _ | .ptr _ _ | .mrow _ _ _ _ => true
  | _ => false
theorem exact_eq {G : Gh} {d : D} {u v : Value} (h : exactD d = true) (h1 : VR G d u) (h2 : VR G d v) : u = v := by
  cases d <;> first | (simp [exactD] at h; done) | (cases h1; cases h2; rfl)

/-- Own memory that stands. -/
def BOwn (B : List (Nat × List D)) (st : St) : Prop := ∀ p ∈ B, st.H p.1 = some p.2
def BH (G : Gh) (B : List (Nat × List D)) (w : World) : Prop := ∀ p ∈ B, p.1 < G.nx ∧ ∀ j d, p.2[j]? = some d → exactD d = true → ∃ u, w.cell? ⟨G.rho p.1, j, none⟩ = some u ∧ VR G d u
theorem BOwn.nil (st : St) : BOwn [] st := fun p hp => by cases hp
theorem BOwn.cons {B : List (Nat × List D)} {st : St} {id : Nat} {cs : List D} (h : st.H id = some cs) (hB : BOwn B st) : BOwn ((id, cs) :: B) st := fun p hp => by
  rcases List.mem_cons.1 hp with rfl | hp
  · exact h
  · exact hB p hp
theorem BOwn.holds {B : List (Nat × List D)} {w0 w : World} {G : Gh} {st : St} (hb : BOwn B st) (h : Rel w0 G st w) : BH G B w := fun p hp => by
  have e := hb p hp
  refine ⟨h.nxle e, fun j d hj _ => ?_⟩
  obtain ⟨c, t, hc, hl, _, hv⟩ := h.ex _ _ e
  have hlt : j < c.length := Nat.lt_of_lt_of_le (List.getElem?_eq_some_iff.1 hj).1 hl
  exact ⟨c[j], by rw [cell_heap hc]; exact List.getElem?_eq_getElem hlt, hv j d _ hj (List.getElem?_eq_getElem hlt)⟩
theorem BH.back {B : List (Nat × List D)} {G G' : Gh} {w w1 : World} (hle : G.le G') (h0 : BH G B w1) (h : BH G' B w) : BH G B w := fun p hp => by
  obtain ⟨h1, h2⟩ := h0 p hp
  obtain ⟨h3, h4⟩ := h p hp
  refine ⟨h1, fun j d hj hd => ?_⟩
  obtain ⟨u, hu, hv⟩ := h4 j d hj hd
  obtain ⟨v, _, hv0⟩ := h2 j d hj hd
  rw [hle.rho _ h1] at hu
  have := exact_eq hd (hv0.mono hle) hv
  subst this
  exact ⟨v, hu, hv0⟩

/-- A region that draws its order, from here on. -/
def ZAnyB (P : Program) (w0 : World) (n : Nat) (ops : Array Oper) (Q : ZPost) (B : List (Nat × List D)) (fuel : Nat) (listed : Array Bool) (env : Env) (st : St) : Prop :=
  ∀ G w a, Rel w0 G st w → ER G n env a.tmps → a.defers = [] → wpAnyH P .any ops (Outc w0 n Q G) (fun w => G.Holds w ∧ BH G B w) fuel listed a w
def ZB (P : Program) (w0 : World) (n : Nat) (ops : Array Oper) (Q : ZPost) (B : List (Nat × List D)) (fuel : Nat) (listed : Array Bool) (env : Env) (st : St) : Prop := BOwn B st ∧ ZAnyB P w0 n ops Q B fuel listed env st

/-- An operation that only reads what stands. -/
def ZPureB (P : Program) (B : List (Nat × List D)) (o : Oper) (env : Env) (d : D) : Prop :=
  ∀ G n (a : Act), ER G n env a.tmps → (∃ w, BH G B w) → ∃ v, VR G d v ∧ ∀ w : World, G.Holds w → BH G B w → (execOp a.eval o).run P w = .ok (.value v) w
theorem zpb_load {P : Program} {B : List (Nat × List D)} {o : Oper} {env : Env} {t : TypeId} {x : Operand} {id off : Nat} {cs : List D} {d : D} (hop : o.op = .load t x) (hs : shapeIs P t false 1) (hx : ev env x = some (.ptr id off)) (hm : (id, cs) ∈ B) (hd : cs[off]? = some d) (he : exactD d = true) : ZPureB P B o env d := by
  intro G n a her ⟨w1, hB⟩
  have hvx := ev_ok her hx
  generalize hux : a.eval x = ux at hvx
  cases hvx with
  | ptr _ _ hid =>
    obtain ⟨u, _, hv⟩ := (hB _ hm).2 off d hd he
    refine ⟨u, hv, fun w _ hw => ?_⟩
    obtain ⟨u', hcell, hv'⟩ := (hw _ hm).2 off d hd he
    have := exact_eq he hv hv'
    subst this
    simp only at hcell
    simp [execOp, hop, hux, Instr.loadAt, Instr.sureAddr, loadVar, hs.2.1 w, hcell]
section
variable {P : Program} {w0 : World} {n : Nat} {Q Q1 : ZPost} {env : Env} {st : St} {ops : Array Oper} {fuel : Nat} {listed : Array Bool} {B : List (Nat × List D)}

def ZOneB (P : Program) (w0 : World) (n : Nat) (ops : Array Oper) (Q : ZPost) (B : List (Nat × List D)) (fuel : Nat) (listed : Array Bool) (env : Env) (st : St) (i : Nat) : Prop :=
  ∀ G w a, Rel w0 G st w → ER G n env a.tmps → a.defers = [] → wpOp P ops (Outc w0 n Q G) i (fun a' w' => (G.Holds w' ∧ BH G B w') ∧ wpAnyH P .any ops (Outc w0 n Q G) (fun w => G.Holds w ∧ BH G B w) fuel (listed.setIfInBounds i true) a' w') a w
end

/-- What stood at the beginning may be owned, too. -/
theorem Sep.borrow {st0 st : St} {L : List (Option Nat × List D)} (h : Sep st0 st L) {p : Nat} {cs : List D} (hp : st0.H p = some cs) : Sep (st0.setH p none) st ((some p, cs) :: L) where
  ext := ⟨fun i c e => h.ext.H i c (by
    by_cases hi : i = p
    · subst hi; simp at e
    · simpa [hi] using e), fun t e => h.ext.T t e, h.ext.N⟩
  own := fun i c hm => by
    rcases List.mem_cons.1 hm with e | hm
    · cases e; exact h.ext.H _ _ hp
    · exact h.own i c hm
  new := fun i c hm => by
    rcases List.mem_cons.1 hm with e | hm
    · cases e; simp
    · have := h.new i c hm
      by_cases hi : i = p
      · subst hi; simp
      · simp [hi, this]
  apart := by
    rw [List.filterMap_cons]
    simp only
    refine List.nodup_cons.2 ⟨fun hm => ?_, h.apart⟩
    obtain ⟨c, hc⟩ := Sep.mem_ids hm
    rw [h.new _ _ hc] at hp
    cases hp
section
variable {P : Program} {w0 : World} {n : Nat} {Q Q1 : ZPost} {env : Env} {st : St} {id id2 : Nat} {K : Env → St → Prop}
end
/-- Elements, with the names of their places left out. -/
theorem zp_imrow0 {P : Program} {env : Env} {o : Oper} {t e k id m c j' : Nat} {x y : Operand} {ik : IntKind} {j : Int} (hop : o.op = .indexAddr t x y) (ht : P.underlying t = some (.slice e)) (hi : ∃ i, P.info? e = some i ∧ i.size = k)
    (hx : ev env x = some (.mrow id 0 m c)) (hy : ev env y = some (.v (.int ik j))) (h0 : 0 ≤ j) (h1 : j < m) (ej : j.toNat = j') : ZPure0 P o env (.ptr id (j' * k)) := by
  subst ej
  obtain ⟨i, h2, h3⟩ := hi
  have := zp_index_mrow (P := P) hop ht h2 h3 hx hy h0 h1
  rwa [Nat.zero_add] at this
theorem zp_irow {P : Program} {env : Env} {o : Oper} {t e tk k j' : Nat} {xs : List (List D)} {x y : Operand} {ik : IntKind} {j : Int} (hop : o.op = .indexAddr t x y) (ht : P.underlying t = some (.slice e)) (hi : ∃ i, P.info? e = some i ∧ i.size = k)
    (hx : ev env x = some (.row xs k tk)) (hy : ev env y = some (.v (.int ik j))) (h0 : 0 ≤ j) (h1 : j < (xs.length : Nat)) (ej : j.toNat = j') : ZPure0 P o env (.ref (xs.getD j' [])) := by
  subst ej
  obtain ⟨i, h2, h3⟩ := hi
  exact zp_indexAddr hop ht h2 h3 hx hy h0 h1
end Go.Proofs.Zm
/- The framework's twenty-seventh part: rows and nil, rows without their rights, results given away for reading. -/
namespace Go.Proofs.Zm
open Go.RowKit
set_option linter.unusedVariables false

theorem run_equal_snil {P : Program} (w : World) (t e : TypeId) (a : Option Addr) (l c : Nat) (h : P.underlying t = some (.slice e)) : (Op.equal t (.slice a l c) (.slice none 0 0)).run P w = .ok a.isNone w := by
  have : ∀ d, (Op.equalIn (d + 1) t (.slice a l c) (.slice none 0 0)).run P w = .ok a.isNone w := fun d => by cases a <;> simp [Op.equalIn, run_underlying h]
  exact this 9999
section
variable {P : Program} {w0 : World} {n : Nat} {env : Env} {st st0 : St} {Q Q1 : ZPost} {ops : Array Oper} {t : Nat} {rest : List Oper} {x y z : Operand} {t1 t2 ty : TypeId} {pos : String} {after : Array Edge}

/-- 's == nil', 's != nil' of a row that is read: what it is when it is nil. -/
theorem zs_rowEqNil {e k tk : Nat} {xs : List (List D)} (ht : Nat.ble (t + 1) n = true) (hx : ev env x = some (.row xs k tk)) (ht1 : P.underlying t1 = some (.slice e)) (hk : ∀ b : Bool, (b = true → xs = []) → ZOps P w0 n ops rest Q ((t, .v (.bool b)) :: env) st) :
    ZOps P w0 n ops (⟨some t, .binOp .eql t1 x (.const (.slice none 0 0)) t2, ty, pos, after, none⟩ :: rest) Q env st := by
  intro G w a h1 h2 h3
  have hv := ev_ok h2 hx
  have key : ∃ b : Bool, (b = true → xs = []) ∧ (∀ w : World, (execOp a.eval ⟨some t, .binOp .eql t1 x (.const (.slice none 0 0)) t2, ty, pos, after, none⟩).run P w = .ok (.value (.bool b)) w) := by
    generalize hu : a.eval x = u at hv
    have hc : a.eval (.const (.slice none 0 0)) = .slice none 0 0 := rfl
    have main : ∀ (aa : Option Addr) (l c : Nat), u = .slice aa l c → ∀ w : World, (execOp a.eval ⟨some t, .binOp .eql t1 x (.const (.slice none 0 0)) t2, ty, pos, after, none⟩).run P w = .ok (.value (.bool aa.isNone)) w := fun aa l c e w => by
      subst e
      have hg : (eqGuard .eql t1 x (.const (.slice none 0 0)) (.slice aa l c) (.slice none 0 0)).run P w = .ok () w := by unfold eqGuard; simp
      simp only [execOp, hu, hc, Sem.run_bind, hg, Result.andThen_ok]
      simp [binOp, run_equal_snil w t1 e aa l c ht1]
    cases hv with
    | row _ _ _ aa m c u hn => exact ⟨false, fun h => (by cases h), main (some aa) m c rfl⟩
    | rowNil => exact ⟨true, fun _ => rfl, main none 0 0 rfl⟩
  obtain ⟨b, hb, hrun⟩ := key
  have hp : ZOps P w0 n ops (⟨some t, .binOp .eql t1 x (.const (.slice none 0 0)) t2, ty, pos, after, none⟩ :: rest) Q env st ∨ True := .inr trivial
  unfold wpList
  rw [if_pos (by simp [Region.wanted])]
  left
  unfold Oper.wp
  rw [hrun w]
  refine wpList_mono (Outc.mono (.refl G) (fun _ _ _ h => h)) (fun c a w h => h.elim) rest _ w (hk b hb G w _ h1 (by simpa [Act.put] using h2.put (Nat.le_of_ble_eq_true ht) (.v _)) (by simpa [Act.put] using h3))

/-- Rows lose their rights. -/
def FzT (env : Env) (ks : List Nat) (env1 : Env) : Prop := ∀ t d', zlook env1 t = some d' → ∃ d, zlook env t = some d ∧ (d' = d ∨ ∃ xs k tk, d = .row xs k tk ∧ d' = .row xs k 0)
end

/-- A result that is owned; one that is given away for reading. -/
def ownR (st : St) (k : Nat) (xs : List (List D)) (K : D → St → Prop) : Prop := ∀ o c full st', Sep st st' [(o, full)] → GRow o full k xs.length c xs.flatten → K (orow o xs.length c) st'
def frzR (st : St) (k : Nat) (xs : List (List D)) (K : D → St → Prop) : Prop := K (.row xs k 0) st
/-- What is owned may be given away for reading. -/
theorem SoundF.frozen {P : Program} {f : FuncId} {k : Nat} {pre : List D → St → List (List D) → Prop} (k0 : 0 < k) (h : SoundF P f fun args st K => ∃ xs, pre args st xs ∧ ownR st k xs K) :
    SoundF P f fun args st K => ∃ xs, pre args st xs ∧ (∀ x ∈ xs, x.length = k) ∧ frzR st k xs K := by
  rintro w0 args st K ⟨xs, hp, hx, hK⟩ G w vals hr hv
  refine (h w0 args st (fun d st' => ∃ o c full, d = orow o xs.length c ∧ Sep st st' [(o, full)] ∧ GRow o full k xs.length c xs.flatten) ⟨xs, hp, fun o c full st' hS hg => ⟨o, c, full, rfl, hS, hg⟩⟩ G w vals hr hv).mono fun e w' hq => ?_
  obtain ⟨v, d, st', G', rfl, hle, hrel, hv', o, c, full, rfl, hS, hg⟩ := hq
  have he : ER G' 1 [(0, orow o xs.length c)] #[v] := ⟨rfl, hrel.mp.gl, fun s d' e => by
    unfold zlook at e
    split at e
    · rename_i h0; subst h0; cases e; exact ⟨v, rfl, hv'⟩
    · simp [zlook] at e⟩
  obtain ⟨G2, st2, hle2, hrel2, he2, hS2⟩ := sfreeze_main (env := [(0, orow o xs.length c)]) (ks := [0]) (env1 := [(0, .row xs k 0)]) xs k0 hS (i := 0) rfl hg rfl hx (fzo_row rfl fzo_nil) hrel he
  obtain ⟨u, hu, hvu⟩ := he2.at_ 0 (.row xs k 0) rfl
  have : u = v := by simpa using hu.symm
  subst this
  exact ⟨u, _, st, G2, rfl, hle.trans hle2, hrel2.forget hS2.ext.H hS2.ext.T hS2.ext.N, hvu, hK⟩

section
variable {P : Program} {env : Env} {o : Oper} {t t1 t2 e : TypeId} {x : Operand}
theorem zp_mask {k : IntKind} {a m p : Int} (e : Nat) (hop : o.op = .binOp .and t1 x (.const (.int k m)) t2) (hx : ev env x = some (.v (.int k a))) (hm : m = 2 ^ e - 1) (hp : (2 : Int) ^ e = p) (hk1 : e < k.bits) (hK : k.bits ≤ 64) (hs : k.signed = true → e < k.bits - 1) : ZPure0 P o env (.v (.int k (a % p))) := by
  subst hp
  exact zp_and hop hx rfl (and_mask e hk1 hK hs a m _ hm rfl)
theorem zp_load_refAll {cs : List D} {k : Nat} (hop : o.op = .load t x) (hs : shapeIs P t true k) (hx : ev env x = some (.ref cs)) (hk : cs.length = k) : ZPure P o env (.agg cs) := by
  have := zp_load_ref_agg hop hs hx (Nat.le_of_eq hk.symm)
  rwa [List.take_of_length_le (Nat.le_of_eq hk)] at this
end
end Go.Proofs.Zm
/- The framework's twenty-eighth part: 'copy' into own memory, by the bytes of a row. -/
namespace Go.Proofs.Zm
open Go.RowKit
set_option linter.unusedVariables false
section
variable {P : Program} {w0 : World} {n : Nat} {env : Env} {st : St} {o : Oper} {K : D → St → Prop}

/-- 'copy(d, s)': bytes, into this call's own memory. -/
theorem zv_copyB {t ts e tk id off m c : Nat} {d s : Operand} {cs : List D} {l : List UInt8} (hop : o.op = .call { callee := .builtin .copy, args := #[d, s], argTypes := #[t, ts] }) (ht : P.underlying t = some (.slice e)) (hi : (P.info? e).map (·.size) = some 1)
    (hd : ev env d = some (.mrow id off m c)) (hH : st.H id = some cs) (hm : off + m ≤ cs.length) (hs : ev env s = some (.row (bytesD l) 1 tk))
    (h : K (.v (.int .i64 ((min l.length m : Nat) : Int))) (st.setH id (some (cs.take off ++ byteC (l.take (min l.length m)) ++ cs.drop (off + min l.length m))))) : ZVal P w0 n o env st K := by
  intro G w a hr her
  have hvd := ev_ok her hd
  have hvs := ev_ok her hs
  generalize hud : a.eval d = ud at hvd
  generalize hus : a.eval s = us at hvs
  have hrun : ∀ {v' w'}, (Builtin.copy_ #[t, ts] o.type #[ud, us]).run P w = .ok v' w' → (execOp a.eval o).run P w = .ok (.value v') w' := fun hq => by
    simp [execOp, hop, resolve, invoke, builtin, hud, hus, hq]
  cases hvd with
  | mrow _ _ _ _ hid hmc hm63 =>
    obtain ⟨cc, e', hcc, hl, hc1, hcv⟩ := hr.ex id cs hH
    have hsame : ∀ q, q = 0 → st.setH id (some (cs.take off ++ byteC (l.take q) ++ cs.drop (off + q))) = st := fun q hq => by
      subst hq
      rw [List.take_zero, show byteC [] = [] from rfl, List.append_nil, Nat.add_zero, List.take_append_drop]
      exact St.setH_same hH
    have main : ∀ (aa : Addr) (nn c2 : Nat), us = .slice (some aa) nn c2 → VR G (.row (bytesD l) 1 tk) (.slice (some aa) nn c2) → ∃ v w' G' d' st', (execOp a.eval o).run P w = .ok (.value v) w' ∧ G.le G' ∧ Rel w0 G' st' w' ∧ VR G' d' v ∧ K d' st' := by
      intro aa nn c2 e1 hv
      obtain ⟨e2, e3, e4, e5, news, hf, hM⟩ := hv.flat
      rw [bytesD_length] at e2
      subst e2
      have hnl : news.length = l.length := by rw [hf.len, bytesD_length, Nat.mul_one]
      generalize hq : min l.length m = q at *
      have hql : q ≤ l.length := by omega
      have hqm : q ≤ m := by omega
      have hrc := run_copy_row (P := P) w t ts o.type e (G.rho id) off m c aa l.length c2 cc.toArray e' (news.take q) ht hi hcc (by rw [List.length_take, hnl]; show _ = min l.length m; omega)
        (fun j v hj => by
          rw [List.getElem?_take] at hj
          split at hj
          · exact hr.mem _ _ (hM j v hj)
          · cases hj) (by rw [List.length_take, hnl]; simp; omega) (fun v hv => hf.one v (List.mem_of_mem_take hv))
      rw [← e1] at hrc
      have htl : (news.take q).length = q := by rw [List.length_take, hnl]; omega
      rw [htl] at hrc
      have hbv : VRs G (byteC (l.take q)) (news.take q) := ⟨by rw [byteC_length, htl, List.length_take]; omega, fun j d u h1 h2 => by
        rw [List.getElem?_take] at h2
        split at h2
        · rename_i hj
          simp only [byteC, List.getElem?_map, List.getElem?_take, if_pos hj] at h1
          obtain ⟨b, hb, rfl⟩ := Option.map_eq_some_iff.1 h1
          obtain ⟨u', hu', hv'⟩ := hf.vr j [.v (.int .u8 (b.toNat : Int))] 0 _ (by simp [bytesD, hb]) rfl
          rw [Nat.mul_one, Nat.add_zero, h2] at hu'
          cases hu'
          exact hv'
        · cases h2⟩
      have hrel := hr.put (w1 := w.setRow (G.rho id) (cc.take off ++ news.take q ++ cc.drop (off + q)).toArray) (cs' := cs.take off ++ byteC (l.take q) ++ cs.drop (off + q)) hH hcc (setRow_heap w _ cc.toArray _ e' _ hcc)
        (by rw [List.length_append, List.length_append, List.length_append, List.length_append, htl, hbv.1, htl, List.length_take, List.length_take, List.length_drop, List.length_drop]; omega)
        (fun u hu => by
          simp only [List.mem_append] at hu
          rcases hu with (hu | hu) | hu
          · exact hc1 u (List.mem_of_mem_take hu)
          · exact hf.one u (List.mem_of_mem_take hu)
          · exact hc1 u (List.mem_of_mem_drop hu))
        (by
          have h0 : VRs G (cs.take off) (cc.take off) := ⟨by rw [List.length_take, List.length_take]; omega, fun j d u h1 h2 => by
            rw [List.getElem?_take] at h1 h2
            split at h1
            · rename_i hj; rw [if_pos hj] at h2; exact hcv j d u h1 h2
            · cases h1⟩
          have hv := VRs.append h0 hbv
          have el : (cs.take off ++ byteC (l.take q)).length = off + q := by rw [hv.1, List.length_append, htl, List.length_take]; omega
          have er : (cc.take off ++ news.take q).length = off + q := by rw [List.length_append, htl, List.length_take]; omega
          intro j d u h1 h2
          by_cases hj : j < off + q
          · rw [List.getElem?_append_left (by rw [el]; exact hj)] at h1
            rw [List.getElem?_append_left (by rw [er]; exact hj)] at h2
            exact hv.2 j d u h1 h2
          · rw [List.getElem?_append_right (by rw [el]; omega), el, List.getElem?_drop, Nat.add_sub_cancel' (by omega)] at h1
            rw [List.getElem?_append_right (by rw [er]; omega), er, List.getElem?_drop, Nat.add_sub_cancel' (by omega)] at h2
            exact hcv j d u h1 h2)
        (fun q hq => setRow_other w _ q _ hq) (by simp) rfl rfl rfl
      exact ⟨.int .i64 (q : Int), _, G, _, _, hrun (by have h2 := hrc; simp only [goInt] at h2; simpa using h2), .refl G, hrel, .v _, h⟩
    generalize hys : bytesD l = ys at hvs
    cases hvs with
    | row _ _ _ aa nn c2 u hn hc2 hm63' hkk hcell h1 hvv htt => subst hys; exact main aa nn c2 rfl (VR.row (bytesD l) 1 tk aa nn c2 u hn hc2 hm63' hkk hcell h1 hvv htt)
    | rowNil =>
      have hl0 : l = [] := by cases l with | nil => rfl | cons b l => simp [bytesD] at hys
      subst hl0
      have hs2 : ((P.info? e).map (·.size)).isSome = true := by rw [hi]; rfl
      have hrc := run_copy_nil (P := P) w t ts o.type e ⟨G.rho id, off, none⟩ m c ht hs2
      have hm0 : min ([] : List UInt8).length m = 0 := by simp
      rw [hm0, hsame 0 rfl] at h
      exact ⟨.int .i64 ((0 : Nat) : Int), w, G, _, st, hrun (by have h2 := hrc; simp only [goInt] at h2; simpa using h2), .refl G, hr, .v _, h⟩
end
/-- Elements that are told. -/
theorem zp_irowE {P : Program} {env : Env} {o : Oper} {t e tk k j' : Nat} {xs : List (List D)} {cs : List D} {x y : Operand} {ik : IntKind} {j : Int} (hop : o.op = .indexAddr t x y) (ht : P.underlying t = some (.slice e)) (hi : ∃ i, P.info? e = some i ∧ i.size = k)
    (hx : ev env x = some (.row xs k tk)) (hy : ev env y = some (.v (.int ik j))) (h0 : 0 ≤ j) (h1 : j < (xs.length : Nat)) (ej : j.toNat = j') (hg : xs.getD j' [] = cs) : ZPure0 P o env (.ref cs) := by
  subst ej hg
  obtain ⟨i, h2, h3⟩ := hi
  exact zp_indexAddr hop ht h2 h3 hx hy h0 h1
theorem zs_idxE {P : Program} {w0 : World} {n : Nat} {env : Env} {st : St} {Q : ZPost} {ops : Array Oper} {t : Nat} {rest : List Oper} {x y : Operand} {t1 ty : TypeId} {pos : String} {after : Array Edge} {e tk k j' : Nat} {xs : List (List D)} {cs : List D} {ik : IntKind} {j : Int} (ht : Nat.ble (t + 1) n = true) (hx : ev env x = some (.row xs k tk)) (hy : ev env y = some (.v (.int ik j)))
    (ht1 : P.underlying t1 = some (.slice e)) (hi : ∃ i, P.info? e = some i ∧ i.size = k) (h0 : 0 ≤ j) (h1 : j < (xs.length : Nat)) (ej : j.toNat = j') (hg : xs.getD j' [] = cs)
    (hk : ZOps P w0 n ops rest Q ((t, .ref cs) :: env) st) : ZOps P w0 n ops (⟨some t, .indexAddr t1 x y, ty, pos, after, none⟩ :: rest) Q env st :=
  zo_pure0 rfl rfl (Nat.le_of_ble_eq_true ht) (zp_irowE rfl ht1 hi hx hy h0 h1 ej hg) hk
end Go.Proofs.Zm
/- The framework's twenty-ninth part: slots that are told less sharply (nil as a row, rows without their rights, within structs, too). -/
namespace Go.Proofs.Zm
open Go.RowKit
set_option linter.unusedVariables false

/-- What stands for a value by d does so by d', too. -/
def DLe (d d' : D) : Prop := ∀ G u, VR G d u → VR G d' u
theorem DLe.refl (d : D) : DLe d d := fun _ _ h => h
theorem DLe.nil (k : Nat) : DLe (.v (.slice none 0 0)) (.row [] k 0) := fun G u h => by
  have := h.eq_v; subst this; exact .rowNil k 0 (.inl rfl)
inductive DLes : List D → List D → Prop where
  | nil : DLes [] []
  | cons {d e : D} {ds es : List D} (h : DLe d e) (hs : DLes ds es) : DLes (d :: ds) (e :: es)
theorem DLes.length {ds es : List D} (h : DLes ds es) : ds.length = es.length := by
  induction h with
  | nil => rfl
  | cons _ _ ih => simp [ih]
theorem DLes.get {ds es : List D} (h : DLes ds es) : ∀ (j : Nat) (e : D), es[j]? = some e → ∃ d, ds[j]? = some d ∧ DLe d e := by
  induction h with
  | nil => intro j e h; simp at h
  | cons h _ ih =>
    intro j e hj
    cases j with
    | zero => cases hj; exact ⟨_, rfl, h⟩
    | succ j => exact ih j e (by simpa using hj)
theorem DLe.agg {ds es : List D} (h : DLes ds es) : DLe (.agg ds) (.agg es) := fun G u hv => by
  cases hv with
  | agg _ us hl hvs =>
    refine .agg _ _ (by rw [← h.length]; exact hl) fun j e u h1 h2 => ?_
    obtain ⟨d, h3, h4⟩ := h.get j e h1
    exact h4 G u (hvs j d u h3 h2)
theorem DLe.tup {ds es : List D} (h : DLes ds es) : DLe (.tup ds) (.tup es) := fun G u hv => by
  cases hv with
  | tup _ us hl hvs =>
    refine .tup _ _ (by rw [← h.length]; exact hl) fun j e u h1 h2 => ?_
    obtain ⟨d, h3, h4⟩ := h.get j e h1
    exact h4 G u (hvs j d u h3 h2)

def FzL (env : Env) (ks : List Nat) (env1 : Env) : Prop := ∀ t d', zlook env1 t = some d' → ∃ d, zlook env t = some d ∧ DLe d d'
section
variable {P : Program} {w0 : World} {n : Nat} {env : Env} {st : St} {Q : ZPost} {ops : Array Oper}
end
end Go.Proofs.Zm
/- The framework's thirtieth part: noughts that are appended to owned rows. -/
namespace Go.Proofs.Zm
open Go.RowKit
set_option linter.unusedVariables false
section
variable {P : Program} {w0 : World} {n : Nat} {env : Env} {st st0 : St} {o : Oper} {K : D → St → Prop}

/-- What an append to an owned row comes to. -/
theorem sapp_gen {G : Gh} {w : World} {at_ : Array TypeId} {ty : TypeId} {xv us : Value} {e k by_ m c i : Nat} {z : List D} {zv : Value} {ti : TypeInfo} {ob : Option Nat} {full cells : List D} {L : List (Option Nat × List D)} {ys : List (List D)} {news : List Value} (hr : Rel w0 G st w)
    (hti : P.info? e = some ti) (hk : ti.size = k) (hz : ti.zero = some zv) (hzs : zv.cells.size = k) (hzz : cellsD (.v zv) = z) (k0 : 0 < k) (b0 : 0 < by_) (hz1 : ∀ d ∈ z, oneD d = true) (R : AppRuns P w at_ ty xv e k by_ ys.length news)
    (hff : VRs G ys.flatten news) (hnl : news.length = ys.length * k) (hone : ∀ u ∈ news, u.oneCell' = true) (hvs : VR G (orow ob m c) us) (hS : Sep st0 st L) (hi : L[i]? = some (ob, full)) (hg : GRow ob full k m c cells) (hb : (m + ys.length) * by_ ≤ 140737488355328)
    (h : ∀ o' c' full' st', Sep st0 st' (L.set i (o', full')) → GRow o' full' k (m + ys.length) c' (cells ++ ys.flatten) → K (orow o' (m + ys.length) c') st') :
    ∃ v w' G' d st', (Builtin.append_ at_ ty #[us, xv]).run P w = .ok v w' ∧ G.le G' ∧ Rel w0 G' st' w' ∧ VR G' d v ∧ K d st' := by
  have hmax : m + ys.length ≤ 140737488355328 := Nat.le_trans (Nat.le_mul_of_pos_right _ b0) hb
  have hzone := zv_cells_one hzz hz1
  have hcl := hg.length
  by_cases hy0 : ys = []
  · subst hy0
    simp only [List.length_nil, Nat.add_zero, List.flatten_nil, List.append_nil] at h
    have hsame : L.set i (ob, full) = L := by
      apply List.ext_getElem?; intro j; rw [List.getElem?_set]
      split
      · rename_i hj; subst hj; rw [if_pos (List.getElem?_eq_some_iff.1 hi).1, hi]
      · rfl
    have hK := h ob c full st (by rw [hsame]; exact hS) hg
    cases ob with
    | none =>
      have := hvs.eq_v; subst this
      exact ⟨_, w, G, _, _, R.none none 0 0 rfl (Nat.le_refl _), .refl G, hr, hvs, hK⟩
    | some id =>
      cases hvs with
      | mrow _ _ _ _ hid hmc hm63 => exact ⟨_, w, G, _, _, R.none _ _ _ rfl hmc, .refl G, hr, .mrow _ _ _ _ hid hmc hm63, hK⟩
  have hy1 : 0 < ys.length := List.length_pos_iff.2 hy0
  have hge := grownCap_ge w (m + ys.length) c e
  have hcm := grownCap_le_maxLen w (m + ys.length) c e (by unfold maxLen; omega)
  cases ob with
  | none =>
    have := hvs.eq_v; subst this
    have hc0 := hg.nil rfl
    have hm0 : m = 0 := by have := hg.room; omega
    subst hc0; subst hm0
    have hcells : cells = [] := by have := hg.length; simpa using this
    subst hcells
    have hq := R.grow none 0 0 [] zv ti hti hz (by simp [Builtin.firstCells, loadCells, loadCellsFrom]) (by omega) hb
    obtain ⟨G', hle, hrel, hv⟩ := grown_full (e := e) (cp := grownCap w (0 + ys.length) 0 e) (m := 0 + ys.length) hr k0 hzs hzz [] news ys.flatten (by simpa using hff) (fun u hu => hone u (by simpa using hu)) hzone (by rw [List.nil_append, hnl, Nat.zero_add]) hge hcm
    have hw : some ((none : Option Nat), full) = L[i]? := hi.symm
    refine ⟨_, _, G', _, _, hq, hle, hrel, hv, h (some G.nx) _ _ _ (hS.swap hi hr.freshName _) ⟨?_, hge, fun e => (by cases e), ?_⟩⟩
    · have hzl : z.length = k := by rw [← hzs, ← hzz, (cellsD_ok (VR.v (G := G) zv)).1, Array.length_toList]
      rw [List.length_append, hff.1, hnl, List.length_flatten]
      simp only [List.map_replicate, List.sum_replicate_nat, hzl]
      rw [← Nat.add_mul]
      congr 1
      omega
    · rw [List.nil_append, List.take_append_of_le_length (by rw [hff.1, hnl, Nat.zero_add]; exact Nat.le_refl _), List.take_of_length_le (by rw [hff.1, hnl, Nat.zero_add]; exact Nat.le_refl _)]
  | some id =>
    have hH := hS.at_ hi
    cases hvs with
    | mrow _ _ _ _ hid hmc hm63 =>
      obtain ⟨cc, e', hcc, hl, hc1, hcv⟩ := hr.ex id full hH
      have hmk : (m + ys.length) * k = m * k + ys.length * k := Nat.add_mul _ _ _
      have hfl := hg.len
      have hmc2 : m * k ≤ c * k := Nat.mul_le_mul_right _ hmc
      have htl : (cc.take (m * k)).length = m * k := by rw [List.length_take]; omega
      have hvtake : VRs G cells (cc.take (m * k)) := ⟨by rw [htl, hcl], fun j d u q1 q2 => by
        rw [← hg.cells] at q1
        rw [List.getElem?_take] at q1 q2
        split at q1
        · rename_i hj; rw [if_pos hj] at q2; exact hcv j d u q1 q2
        · cases q1⟩
      by_cases hroom : m + ys.length ≤ c
      · have hrk : (m + ys.length) * k ≤ c * k := Nat.mul_le_mul_right _ hroom
        have hq := R.room (G.rho id) m c cc.toArray e' (0, 0) hcc (Free.zero _) hroom (by rw [hnl]; simp; omega)
        skip
        have hrel := hr.put (w1 := w.setRow (G.rho id) (cc.take (m * k) ++ news ++ cc.drop (m * k + news.length)).toArray) (cs' := cells ++ ys.flatten ++ full.drop ((m + ys.length) * k)) hH hcc (setRow_heap w _ cc.toArray _ e' _ hcc)
          (by rw [List.length_append, List.length_append, List.length_append, List.length_append, htl, hff.1, hnl, hcl, List.length_drop, List.length_drop]; omega)
          (fun u hu => by
            simp only [List.mem_append] at hu
            rcases hu with (hu | hu) | hu
            · exact hc1 u (List.mem_of_mem_take hu)
            · exact hone u hu
            · exact hc1 u (List.mem_of_mem_drop hu))
          (by
            have hv := VRs.append hvtake hff
            intro j d u a b
            by_cases hj : j < (m + ys.length) * k
            · rw [List.getElem?_append_left (by rw [hv.1, List.length_append, htl, hnl]; omega)] at a
              rw [List.getElem?_append_left (by rw [List.length_append, htl, hnl]; omega)] at b
              exact hv.2 j d u a b
            · have el : (cells ++ ys.flatten).length = (m + ys.length) * k := by rw [hv.1, List.length_append, htl, hnl]; omega
              have er : (cc.take (m * k) ++ news).length = (m + ys.length) * k := by rw [List.length_append, htl, hnl]; omega
              rw [List.getElem?_append_right (by rw [el]; omega), el, List.getElem?_drop, Nat.add_sub_cancel' (by omega)] at a
              rw [List.getElem?_append_right (by rw [er]; omega), er, List.getElem?_drop, hnl, show m * k + ys.length * k + (j - (m + ys.length) * k) = j by omega] at b
              exact hcv j d u a b)
          (fun q hq => setRow_other w _ q _ hq) (by simp) rfl rfl rfl
        have hel : (cells ++ ys.flatten).length = (m + ys.length) * k := by rw [List.length_append, hcl, hff.1, hnl, hmk]
        refine ⟨_, _, G, _, _, by simpa using hq, .refl G, hrel, VR.mrow id 0 (m + ys.length) c hid hroom hm63, h (some id) c _ _ (hS.put hi _) ⟨?_, hroom, fun e => (by cases e), ?_⟩⟩
        · rw [List.length_append, hel, List.length_drop]; omega
        · rw [List.take_append_of_le_length (Nat.le_of_eq hel.symm), List.take_of_length_le (Nat.le_of_eq hel)]
      · have holds : ∀ j u, (cc.take (m * k))[j]? = some u → w.cell? ((⟨G.rho id, 0, none⟩ : Addr).add j) = some u := fun j u hj => by
          rw [List.getElem?_take] at hj
          split at hj
          · rw [add_plain, cell_heap hcc]; exact hj
          · cases hj
        have hq := R.grow (some ⟨G.rho id, 0, none⟩) m c (cc.take (m * k)) zv ti hti hz (by rw [hk]; exact run_firstCells_some (P := P) w.drew k m _ _ _ _ htl (by simpa using holds)) (by omega) hb
        have hel : (cells ++ ys.flatten).length = (m + ys.length) * k := by rw [List.length_append, hcl, hff.1, hnl, hmk]
        obtain ⟨G', hle, hrel, hv⟩ := grown_full (e := e) (cp := grownCap w (m + ys.length) c e) (m := m + ys.length) hr k0 hzs hzz (cc.take (m * k)) news (cells ++ ys.flatten) (VRs.append hvtake hff) (fun u hu => by
          rcases List.mem_append.1 hu with hu | hu
          · exact hc1 u (List.mem_of_mem_take hu)
          · exact hone u hu) hzone (by rw [List.length_append, htl, hnl, Nat.add_mul]) hge hcm
        refine ⟨_, _, G', _, _, hq, hle, hrel, hv, h (some G.nx) _ _ _ (hS.swap hi hr.freshName _) ⟨?_, hge, fun e => (by cases e), ?_⟩⟩
        · have hzl : z.length = k := by rw [← hzs, ← hzz, (cellsD_ok (VR.v (G := G) zv)).1, Array.length_toList]
          rw [List.length_append, hel, List.length_flatten]
          simp only [List.map_replicate, List.sum_replicate_nat, hzl]
          rw [← Nat.add_mul]
          congr 1
          omega
        · rw [List.take_append_of_le_length (Nat.le_of_eq hel.symm), List.take_of_length_le (Nat.le_of_eq hel)]

/-- 'append(s, make([]T, m)...)': s is owned. -/
theorem zv_sappZ {t tn e k by_ m c i q : Nat} {kk kx : IntKind} {z : List D} {s x : Operand} {ob : Option Nat} {full cells : List D} {L : List (Option Nat × List D)} (hop : o.op = .call { callee := .builtin .append, args := #[s, x], argTypes := #[t, tn] })
    (he : ElemOk P e k by_ z) (hz1 : ∀ d ∈ z, oneD d = true) (ht : P.underlying t = some (.slice e)) (htn : P.underlying tn = some (.int kk)) (hs : ev env s = some (orow ob m c)) (hS : Sep st0 st L) (hi : L[i]? = some (ob, full)) (hg : GRow ob full k m c cells) (hx : ev env x = some (.v (.int kx (q : Int)))) (hb : (m + q) * by_ ≤ 140737488355328)
    (h : ∀ o' c' full' st', Sep st0 st' (L.set i (o', full')) → GRow o' full' k (m + q) c' (cells ++ (List.replicate q z).flatten) → K (orow o' (m + q) c') st') : ZVal P w0 n o env st K := by
  intro G w a hr her
  have hvs := ev_ok her hs
  have hvx := (ev_ok her hx).eq_v
  generalize hus : a.eval s = us at hvs
  have hrun : ∀ {v' w'}, (Builtin.append_ #[t, tn] o.type #[us, .int kx (q : Int)]).run P w = .ok v' w' → (execOp a.eval o).run P w = .ok (.value v') w' := fun hq => by
    simp [execOp, hop, resolve, invoke, builtin, hus, hvx, hq]
  obtain ⟨⟨ti, zv, hti, hk, hby, hz, hzs, hzz⟩, k0, b0⟩ := he
  have hzone := zv_cells_one hzz hz1
  have hzv := zero_vrs (G := G) k0 hzs hzz q
  have hzl : (Builtin.zeroCells zv.cells q).toList.length = q * k := by rw [Array.length_toList, size_zeroCells, hzs]
  have h1 : ∀ u ∈ (Builtin.zeroCells zv.cells q).toList, u.oneCell' = true := vrs_one hzv fun d hd => by
    obtain ⟨l, hl, hd⟩ := List.mem_flatten.1 hd
    rw [List.eq_of_mem_replicate hl] at hd
    exact hz1 d hd
  have hbq : q * by_ ≤ 140737488355328 := Nat.le_trans (Nat.mul_le_mul_right _ (Nat.le_add_left _ _)) hb
  have R := appRuns_zeros (w := w) (kx := kx) hti hk hby hz hzs k0 b0 ht htn o.type q hbq h1
  obtain ⟨v, w', G', d, st', q1, q2, q3, q4, q5⟩ := sapp_gen (K := K) (ys := List.replicate q z) hr hti hk hz hzs hzz k0 b0 hz1 (by rw [List.length_replicate]; exact R) hzv (by rw [List.length_replicate]; exact hzl) h1 hvs hS hi hg (by rw [List.length_replicate]; exact hb) (by rw [List.length_replicate]; exact h)
  exact ⟨v, w', G', d, st', hrun q1, q2, q3, q4, q5⟩
end
end Go.Proofs.Zm
namespace Go.Proofs.Zm
open Go.RowKit Go.Proofs
set_option linter.unusedVariables false
/-! # Within a region that draws: a row whose right is forgotten, and the state before it -/
section
variable {P : Program} {w0 : World} {n : Nat} {Q : ZPost} {env : Env} {st : St} {ops : Array Oper} {fuel : Nat} {listed : Array Bool}
end
end Go.Proofs.Zm
/- The framework's thirty-second part: an owned row becomes one that is read, with the right to append. -/
namespace Go.Proofs.Zm
open Go.RowKit Go.Proofs
set_option linter.unusedVariables false
section
variable {w0 w : World} {G : Gh} {st st0 : St}

end

/-- Slots that hold an owned row hold one that is read, with a right. -/
def FzOT (ob : Option Nat) (m c : Nat) (xs : List (List D)) (k t : Nat) (env : Env) (ks : List Nat) (env1 : Env) : Prop :=
  ∀ s d', zlook env1 s = some d' → ∃ d, zlook env s = some d ∧ (d' = d ∨ (d = orow ob m c ∧ d' = .row xs k t))
section
variable {ob : Option Nat} {m c : Nat} {xs : List (List D)} {k t : Nat} {env : Env}
end

section
variable {P : Program} {w0 : World} {n : Nat} {env : Env} {st st0 : St} {Q Q1 : ZPost} {ops : Array Oper}
end
end Go.Proofs.Zm
/- The framework's thirty-third part: the types' facts, looked up in tables. -/
namespace Go.Proofs.Zm
open Go.RowKit
set_option linter.unusedVariables false
def lkT {α : Type} : List (Nat × α) → Nat → Option α
  | [], _ => none
  | (k, v) :: r, t => bif Nat.beq k t then some v else lkT r t
def AllT {α : Type} (p : Nat → α → Prop) : List (Nat × α) → Prop
  | [] => True
  | (k, v) :: r => p k v ∧ AllT p r
theorem AllT.get {α : Type} {p : Nat → α → Prop} : ∀ {l : List (Nat × α)} {t : Nat} {v : α}, AllT p l → lkT l t = some v → p t v
  | [], t, v, _, h => by cases h
  | (k, w) :: r, t, v, ha, h => by
    unfold lkT at h
    cases e : Nat.beq k t with
    | true => rw [e] at h; cases h; cases Nat.eq_of_beq_eq_true e; exact ha.1
    | false => rw [e] at h; exact AllT.get ha.2 h
/-- Fields: type, place, offset. -/
def lkF : List (Nat × Nat × Nat) → Nat → Nat → Option Nat
  | [], _, _ => none
  | (k, f, o) :: r, t, g => bif Nat.beq k t then (bif Nat.beq f g then some o else lkF r t g) else lkF r t g
def AllF (p : Nat → Nat → Nat → Prop) : List (Nat × Nat × Nat) → Prop
  | [] => True
  | (k, f, o) :: r => p k f o ∧ AllF p r
theorem AllF.get {p : Nat → Nat → Nat → Prop} : ∀ {l : List (Nat × Nat × Nat)} {t g o : Nat}, AllF p l → lkF l t g = some o → p t g o
  | [], t, g, o, _, h => by cases h
  | (k, f, w) :: r, t, g, o, ha, h => by
    unfold lkF at h
    cases e : Nat.beq k t with
    | true =>
      rw [e] at h
      cases e' : Nat.beq f g with
      | true => rw [e'] at h; cases h; cases Nat.eq_of_beq_eq_true e; cases Nat.eq_of_beq_eq_true e'; exact ha.1
      | false => rw [e'] at h; exact AllF.get ha.2 h
    | false => rw [e] at h; exact AllF.get ha.2 h
def inf3 (P : Program) (t : Nat) : Option (Nat × Nat × Option Value) := (P.info? t).map fun i => (i.size, i.bytes, i.zero)
theorem allT_inf {P : Program} : ∀ {l : List (Nat × Nat × Nat × Option Value)}, l.map (fun r => inf3 P r.1) = l.map (fun r => some r.2) → AllT (fun t r => inf3 P t = some r) l
  | [], _ => trivial
  | (k, v) :: r, h => by
    simp only [List.map_cons, List.cons.injEq] at h
    exact ⟨h.1, allT_inf h.2⟩
theorem el_mk {P : Program} {t k b : Nat} {z : List D} {zv : Value} (hi : inf3 P t = some (k, b, some zv)) (h1 : zv.cells.size = k) (h2 : cellsD (.v zv) = z) (k0 : 0 < k) (b0 : 0 < b) : ElemOk P t k b z := by
  obtain ⟨i, hi, he⟩ := Option.map_eq_some_iff.1 hi
  simp only [Prod.mk.injEq] at he
  exact ⟨⟨i, zv, hi, he.1, he.2.1, he.2.2, h1, h2⟩, k0, b0⟩
theorem sz_mk {P : Program} {t k b : Nat} {z : Option Value} (hi : inf3 P t = some (k, b, z)) : (P.info? t).map (·.size) = some k := by
  obtain ⟨i, hi, he⟩ := Option.map_eq_some_iff.1 hi
  simp only [Prod.mk.injEq] at he
  rw [hi]; exact congrArg some he.1
theorem ii_mk {P : Program} {t k b : Nat} {z : Option Value} (hi : inf3 P t = some (k, b, z)) : ∃ i, P.info? t = some i ∧ i.size = k := Option.map_eq_some_iff.1 (sz_mk hi)
theorem fld_mk {P : Program} {t f off ft k b : Nat} {z : Option Value} {fs : Array Field} {fd : Field} (hu : P.underlying t = some (.struct fs)) (h1 : fs[f]? = some fd) (h2 : fd.offset = off) (hi : inf3 P fd.type = some (k, b, z)) (hk : k ≠ 0) : fieldIs P t f off := by
  obtain ⟨i, hi, he⟩ := ii_mk hi
  exact ⟨fs, fd, i, hu, h1, h2, hi, by rw [he]; exact hk⟩
end Go.Proofs.Zm
/- The framework's thirty-fourth part: functions that have no body: bytes compared; a float's bits. -/
namespace Go.Proofs.Zm
open Go.RowKit
set_option linter.unusedVariables false
set_option linter.unusedSimpArgs false
/-- A function that has no body, and what it does. -/
def ExtIs (P : Program) (f : FuncId) (e : Array Value → Sem Value) : Prop := ∃ fn, P.funcs[f]? = some fn ∧ (fn.name == "runtime.NumGoroutine") = false ∧ fn.body.isNone = true ∧ Extern.findNext fn = none ∧ Extern.find fn = some e
variable {P : Program} {w0 : World} {n : Nat} {env : Env} {st : St} {o : Oper} {K : D → St → Prop}
theorem bytesOf_row {G : Gh} {l : List UInt8} {tk : Nat} {u : Value} (h : VR G (.row (bytesD l) 1 tk) u) (w : World) (hw : ∀ x v, G.M x = some v → w.cell? x = some v) : (Extern.Bytes.bytesOf u).run P w = .ok ⟨l.toArray⟩ w := by
  have hmap : ∀ (l : List UInt8), Lib.bytesOf (l.map fun b => (b.toNat : Int)) = l := by
    intro l
    simp only [Lib.bytesOf, List.map_map]
    conv => rhs; rw [← List.map_id l]
    refine List.map_congr_left fun b _ => ?_
    simp
  have main : ∀ (a1 : Addr) (nn c : Nat) (u1 : Nat → Nat → Value), (bytesD l).length = nn → (∀ i j, i < nn → j < 1 → G.M (a1.add (i * 1 + j)) = some (u1 i j)) →
      (∀ (i : Nat) (x : List D) (j : Nat) (d : D), (bytesD l)[i]? = some x → x[j]? = some d → VR G d (u1 i j)) → (Extern.Bytes.bytesOf (.slice (some a1) nn c)).run P w = .ok ⟨l.toArray⟩ w := by
    intro a1 nn c u1 hn hcell hvv
    have hl := Lib.run_loadBytesX (P := P) w (l.map fun b => (b.toNat : Int)) a1 .empty (fun j x hj => by
      rw [List.getElem?_map] at hj
      obtain ⟨b, hb, rfl⟩ := Option.map_eq_some_iff.1 hj
      have hlt : j < l.length := (List.getElem?_eq_some_iff.1 hb).1
      have h2 := hw _ _ (hcell j 0 (by rw [← hn]; simpa using hlt) (by omega))
      rw [Nat.mul_one, Nat.add_zero] at h2
      rw [h2]
      have h3 := hvv j [.v (.int .u8 (b.toNat : Int))] 0 _ (by simp only [bytesD, List.getElem?_map, hb, Option.map_some]) rfl
      rw [h3.eq_v])
    rw [hmap] at hl
    have hnn : nn = (l.map fun b => (b.toNat : Int)).length := by simpa using hn.symm
    show (Extern.Bytes.loadBytes a1 nn .empty).run P w = _
    rw [hnn, hl]
    congr 1
    apply ByteArray.ext
    simp
  cases l with
  | nil =>
    cases h with
    | rowNil => rfl
    | row _ _ _ a1 nn c u1 hn hc hm63 hkk hcell h1 hvv htt => exact main a1 nn c u1 hn hcell hvv
  | cons b l =>
    cases h with
    | row _ _ _ a1 nn c u1 hn hc hm63 hkk hcell h1 hvv htt => exact main a1 nn c u1 hn hcell hvv
section
variable {Q : ZPost} {ops : Array Oper} {t : Nat} {rest : List Oper} {x y : Operand} {t1 t2 ty : TypeId} {pos : String} {after : Array Edge}
end
end Go.Proofs.Zm
/- The framework's thirty-fifth part: plain laws of the order of bytes, and of places among rising keys. -/
namespace Go.Proofs.Zm
open Go.RowKit
set_option linter.unusedVariables false
set_option linter.unusedSimpArgs false
abbrev Bs := List UInt8
abbrev lt (a b : Bs) : Bool := Op.bytesLess a b
theorem lt_irrefl : ∀ a : Bs, lt a a = false
  | [] => rfl
  | a :: x => by simp [lt, Op.bytesLess, lt_irrefl x]
theorem lt_cons (a b : UInt8) (x y : Bs) : lt (a :: x) (b :: y) = (decide (a < b) || (a == b && lt x y)) := rfl
theorem lt_nil (a : Bs) : lt a [] = false := by cases a <;> rfl
theorem lt_trans : ∀ {a b c : Bs}, lt a b = true → lt b c = true → lt a c = true
  | [], [], c, h, k => by simp [lt, Op.bytesLess] at h
  | a, b, [], h, k => by rw [lt_nil] at k; cases k
  | [], _, c :: z, h, k => rfl
  | a :: x, [], c :: z, h, k => by rw [lt_nil] at h; cases h
  | a :: x, b :: y, c :: z, h, k => by
    rw [lt_cons] at h k ⊢
    simp only [Bool.or_eq_true, decide_eq_true_eq, Bool.and_eq_true, beq_iff_eq] at h k ⊢
    rcases h with h | ⟨rfl, h⟩
    · rcases k with k | ⟨rfl, k⟩
      · exact .inl (UInt8.lt_trans h k)
      · exact .inl h
    · rcases k with k | ⟨rfl, k⟩
      · exact .inl k
      · exact .inr ⟨rfl, lt_trans h k⟩
theorem lt_asymm {a b : Bs} (h : lt a b = true) : lt b a = false := by
  cases k : lt b a with
  | false => rfl
  | true => have := lt_trans h k; rw [lt_irrefl] at this; cases this
/-- Keys that rise. -/
def Srt (l : List Bs) : Prop := l.Pairwise fun a b => lt a b = true
/-- How many keys are below. -/
def cnt (l : List Bs) (key : Bs) : Nat := (l.takeWhile fun k => lt k key).length
theorem Srt.nil : Srt [] := List.Pairwise.nil
theorem Srt.get {l : List Bs} (h : Srt l) {i j : Nat} (hij : i < j) (hj : j < l.length) : lt l[i] l[j] = true := List.pairwise_iff_getElem.1 h i j (Nat.lt_trans hij hj) hj hij
/-- The kid that has a key: how many keys are not above it. -/
def wayL (l : List Bs) (key : Bs) : Nat := if l[cnt l key]? = some key then cnt l key + 1 else cnt l key
end Go.Proofs.Zm
/- The framework's thirty-sixth part: rows of keys and numbers; an element of a row; boxes that are only read, by the operation's form. -/
namespace Go.Proofs.Zm
open Go.RowKit
set_option linter.unusedVariables false
theorem elt {α : Type} {l : List α} {i : Nat} (h : i < l.length) : ∃ c, l[i]? = some c ∧ l.take (i + 1) = l.take i ++ [c] ∧ l.drop i = c :: l.drop (i + 1) ∧ ∀ f : α → List D, (l.map f).getD i [] = f c := by
  refine ⟨l[i], List.getElem?_eq_getElem h, List.take_succ_eq_append_getElem h, List.drop_eq_getElem_cons h, fun f => ?_⟩
  rw [List.getD_eq_getElem?_getD, List.getElem?_map, List.getElem?_eq_getElem h]; rfl
/-- Rows of bytes; rows of whole numbers. -/
def rowR (l : List Bs) : List (List D) := l.map fun b => [.row (bytesD b) 1 0]
def intR (l : List Int) : List (List D) := l.map fun n => [.v (.int .i64 n)]
@[simp] theorem rowR_length (l : List Bs) : (rowR l).length = l.length := by simp [rowR]
@[simp] theorem intR_length (l : List Int) : (intR l).length = l.length := by simp [intR]
theorem intR_one (l : List Int) : ∀ x ∈ intR l, x.length = 1 := fun x hx => by
  obtain ⟨c, _, rfl⟩ := List.mem_map.1 hx; rfl
theorem eltI {l : List Int} {i : Nat} (h : i < l.length) : ∃ c, l[i]? = some c ∧ l.take (i + 1) = l.take i ++ [c] ∧ l.drop i = c :: l.drop (i + 1) ∧ (intR l).getD i [] = [.v (.int .i64 c)] := by
  obtain ⟨c, h1, h2, h3, h4⟩ := elt h; exact ⟨c, h1, h2, h3, h4 _⟩
theorem intR_append (l m : List Int) : intR (l ++ m) = intR l ++ intR m := by simp [intR]
variable {P : Program} {w0 : World} {n : Nat} {env : Env} {st : St} {Q : ZPost} {ops : Array Oper} {t : Nat} {rest : List Oper} {x : Operand} {t1 ty : TypeId} {pos : String} {after : Array Edge}
theorem zs_boxRef {d : D} (ht : Nat.ble (t + 1) n = true) (hx : ev env x = some d) (hk : ZOps P w0 n ops rest Q ((t, .ref (cellsD d)) :: env) st) : ZOps P w0 n ops (⟨some t, .box t1 x, ty, pos, after, none⟩ :: rest) Q env st :=
  zo_val rfl rfl (Nat.le_of_ble_eq_true ht) (zv_boxRef rfl hx hk)
/-- Prefixes of two rows, compared element by element. -/
theorem take_succ_eq {α : Type} {a b : List α} {i : Nat} {x y : α} (hx : a[i]? = some x) (hy : b[i]? = some y) (h : a.take i = b.take i) : a.take (i + 1) = b.take (i + 1) ↔ x = y := by
  rw [List.take_add_one, List.take_add_one, hx, hy, h]
  constructor
  · intro e; simpa using List.append_cancel_left e
  · intro e; rw [e]
theorem ne_of_elt {α : Type} {a b : List α} {i : Nat} {x y : α} (hx : a[i]? = some x) (hy : b[i]? = some y) (h : x ≠ y) : a ≠ b := fun e => by subst e; rw [hx] at hy; exact h (Option.some.inj hy)
theorem eq_of_takes {α : Type} {a b : List α} {i : Nat} (h : a.take i = b.take i) (ha : a.length ≤ i) (hb : b.length ≤ i) : a = b := by
  rw [List.take_of_length_le ha, List.take_of_length_le hb] at h; exact h
end Go.Proofs.Zm
/- The framework's thirty-seventh part: calls of functions that only tell, guarded or not. (Its second half: the rules of guarded plain operations, for regions with such calls, turned by program.) -/
namespace Go.Proofs.Zm
open Go.RowKit
set_option linter.unusedVariables false
/-- At these arguments the call tells this, and what was known stands. -/
def PureF (P : Program) (f : FuncId) (es : List D) (d : D) : Prop := SoundF P f fun args st K => args = es ∧ K d st
/-- Slots that are not to be told under a guard. -/
def okd (bad : List Nat) (t : Nat) : Bool := !bad.any (Nat.beq t)
theorem PureF.of {P : Program} {f : FuncId} {spec : ZSpec} {es : List D} {d : D} (h : SoundF P f spec) (hs : ∀ st K, K d st → spec es st K) : PureF P f es d := h.weaken fun args st K ⟨e, hK⟩ => by subst e; exact hs st K hK
theorem pure_of {P : Program} {f : FuncId} {fn : Func} {c : Code} {rs : List ResultVar} {es : List D} {d : D} (hf : P.funcs[f]? = some fn) (hb : fn.body = some c) (hrs : fn.results = rs.toArray) (hl : es.length ≤ fn.ntmps)
    (h : ∀ w0 st K, K d st → ZWp P w0 fn.ntmps c (ZRet P rs (KE K)) (argE 0 es) st) : PureF P f es d :=
  sound_ofA hf hb hrs fun w0 args st K ⟨e, hK⟩ => by subst e; exact ⟨hl, h w0 st K hK⟩
section
variable {P : Program} {w0 : World} {n : Nat} {env : Env} {st : St} {Q Q1 : ZPost} {ops : Array Oper} {t : Nat} {rest : List Oper} {x y z : Operand} {t1 t2 ty : TypeId} {pos : String} {after : Array Edge}
theorem DLes.ok {G : Gh} {ds es : List D} (h : DLes ds es) : ∀ {us}, VRs G ds us → VRs G es us := fun {us} hv => ⟨h.length.symm.trans hv.1, fun i e u he hu => by
  obtain ⟨d, hd, hle⟩ := h.get i e he
  exact hle _ _ (hv.2 i d u hd hu)⟩
theorem DLe.nilB : DLe (.v (.slice none 0 0)) (.row (bytesD []) 1 0) := DLe.nil 1
theorem zop_callD {spec : ZSpec} {f : FuncId} {fn : Func} {o : Oper} {x : Operand} {as : List Operand} {ts : Array TypeId} {caps ds es : List D} {t : Nat} {K : Env → St → Prop}
    (hs : SoundF P f spec) (hf : P.funcs[f]? = some fn) (hname : (fn.name == "runtime.NumGoroutine") = false) (hb : fn.body.isSome = true)
    (hop : o.op = .call { callee := .value x, args := as.toArray, argTypes := ts }) (hd : o.dst = some t) (ht : t < n)
    (hx : ev env x = some (.fn f caps)) (ha : evs env as = some ds) (hu : DLes ds es)
    (h : spec (es ++ caps) st fun d st' => K ((t, d) :: env) st') : ZOp P w0 n o env st K := by
  intro G w a hr he hdf next Q' hn
  have hv := ev_ok he hx
  have hargs := hu.ok (evs_ok he ha)
  generalize hu : a.eval x = u at hv
  cases hv with
  | fn _ _ us hl hvs =>
    have hrun : (execOp a.eval o).run P w = .ok (.enter f ((as.map a.eval) ++ us).toArray) w := by
      have hen := enters hf hname hb (((as.map a.eval) ++ us).toArray) w
      unfold execOp
      simp only [hop]
      simp only [resolve, hu, Deferred.ofValue, invoke]
      simp only [Bind.bind, Sem.bind, pure]
      simpa using hen
    unfold Oper.wp
    rw [hrun, Oper.upon_enter]
    refine (hs w0 _ st _ h G w _ hr (hargs.append ⟨hl, hvs⟩)).mono fun e w' hq => ?_
    obtain ⟨v, d, st', G', rfl, hle, hrel, hv, hK⟩ := hq
    exact hn G' ((t, d) :: env) st' _ w' hle hrel (by simpa [Act.put, hd] using (he.mono hle).put ht hv) (by simpa [Act.put, hd] using hdf) hK (fun t' u h1 h2 => put_other h1 h2)
theorem zop_callP {K : Env → St → Prop} {f : FuncId} {o : Oper} {x : Operand} {as : List Operand} {ts : Array TypeId} {ds es : List D} {d : D} {t : Nat} (hp : PureF P f es d) (hc : Callable P f)
    (hop : o.op = .call { callee := .value x, args := as.toArray, argTypes := ts }) (hd : o.dst = some t) (ht : t < n) (hx : ev env x = some (.fn f [])) (ha : evs env as = some ds) (hu : DLes ds es) (h : K ((t, d) :: env) st) : ZOp P w0 n o env st K := by
  obtain ⟨fn, h1, h2, h3⟩ := hc
  exact zop_callD hp h1 h2 h3 hop hd ht hx ha hu ⟨List.append_nil es, h⟩
theorem zop_callQ {H : Prop} {K : Env → St → Prop} {f : FuncId} {o : Oper} {x : Operand} {as : List Operand} {ts : Array TypeId} {ds es : List D} {d : D} {t : Nat} (hp : H → PureF P f es d) (hc : Callable P f)
    (hop : o.op = .call { callee := .value x, args := as.toArray, argTypes := ts }) (hd : o.dst = some t) (ht : t < n) (hx : ev env x = some (.fn f [])) (ha : evs env as = some ds) (hu : DLes ds es) (hH : H) (h : K ((t, d) :: env) st) : ZOp P w0 n o env st K :=
  zop_callP (hp hH) hc hop hd ht hx ha hu h
theorem zs_callP {f : FuncId} {as : List Operand} {ts : Array TypeId} {ds es : List D} {d : D} (hp : PureF P f es d) (hc : Callable P f) (ht : Nat.ble (t + 1) n = true) (ha : evs env as = some ds) (hu : DLes ds es)
    (hk : ZOps P w0 n ops rest Q ((t, d) :: env) st) : ZOps P w0 n ops (⟨some t, .call { callee := .value (.func f), args := as.toArray, argTypes := ts }, ty, pos, after, none⟩ :: rest) Q env st :=
  zo_cons rfl (zop_callP hp hc rfl rfl (Nat.le_of_ble_eq_true ht) rfl ha hu hk)
theorem zs_genL {op : Op} {j : Nat} {want c : Bool} {d : D} (hg : GC ops env j want c) (ht : Nat.ble (t + 1) n = true)
    (h : c = true → ∀ {K : Env → St → Prop}, K ((t, d) :: env) st → ZOp P w0 n ⟨some t, op, ty, pos, after, none⟩ env st K)
    (hk : ZOps P w0 n ops rest Q ((t, gd c d) :: env) st) : ZOps P w0 n ops (⟨some t, op, ty, pos, after, some (j, want)⟩ :: rest) Q env st := by
  cases c with
  | false =>
    rw [gd_f rfl] at hk
    exact zo_skipU (by simpa using ht) (fun G a he => hg G n a he _ rfl) hk
  | true =>
    rw [gd_t rfl] at hk
    have hz := zo_cons (ops := ops) (rest := rest) (Q := Q) (o := ⟨some t, op, ty, pos, after, none⟩) rfl (h rfl hk)
    intro G w a h1 h2 h3
    have := hz G w a h1 h2 h3
    unfold wpList at this ⊢
    rw [if_pos (by simp [Region.wanted])] at this
    rw [if_pos (hg G n a h2 _ rfl)]
    exact this
theorem zs_callQ {H : Prop} {f : FuncId} {as : List Operand} {ts : Array TypeId} {ds es : List D} {d : D} (hp : H → PureF P f es d) (hc : Callable P f) (ht : Nat.ble (t + 1) n = true) (ha : evs env as = some ds) (hu : DLes ds es) (hH : H)
    (hk : ZOps P w0 n ops rest Q ((t, d) :: env) st) : ZOps P w0 n ops (⟨some t, .call { callee := .value (.func f), args := as.toArray, argTypes := ts }, ty, pos, after, none⟩ :: rest) Q env st := zs_callP (hp hH) hc ht ha hu hk
end
section
variable {P : Program} {w0 : World} {n : Nat} {env : Env} {st : St} {Q Q1 : ZPost} {ops : Array Oper} {t : Nat} {rest : List Oper} {x y z : Operand} {t1 t2 ty : TypeId} {pos : String} {after : Array Edge}
theorem zs_h_move (fs : List Nat) {d : D} {j : Nat} {want c : Bool} (hS : okd fs t = true) (hg : GC ops env j want c) (ht : Nat.ble (t + 1) n = true)  (hx : c = true → ev env x = some d)
    (hk : ZOps P w0 n ops rest Q ((t, gd c (d)) :: env) st) : ZOps P w0 n ops (⟨some t, .move x, ty, pos, after, some (j, want)⟩ :: rest) Q env st :=
  zs_genL hg ht (fun hc _ hk' => (zp_move rfl (hx hc)).opK rfl (Nat.le_of_ble_eq_true ht) hk') hk
theorem zs_h_lss (fs : List Nat) {k : IntKind} {a b : Int} {j : Nat} {want c : Bool} (hS : okd fs t = true) (hg : GC ops env j want c) (ht : Nat.ble (t + 1) n = true)  (hx : c = true → ev env x = some (.v (.int k a))) (hy : c = true → ev env y = some (.v (.int k b)))
    (hk : ZOps P w0 n ops rest Q ((t, gd c (.v (.bool (decide (a < b))))) :: env) st) : ZOps P w0 n ops (⟨some t, .binOp .lss t1 x y t2, ty, pos, after, some (j, want)⟩ :: rest) Q env st :=
  zs_genL hg ht (fun hc _ hk' => (zp_lss rfl (hx hc) (hy hc)).opK rfl (Nat.le_of_ble_eq_true ht) hk') hk
theorem zs_h_gtr (fs : List Nat) {k : IntKind} {a b : Int} {j : Nat} {want c : Bool} (hS : okd fs t = true) (hg : GC ops env j want c) (ht : Nat.ble (t + 1) n = true)  (hx : c = true → ev env x = some (.v (.int k a))) (hy : c = true → ev env y = some (.v (.int k b)))
    (hk : ZOps P w0 n ops rest Q ((t, gd c (.v (.bool (decide (b < a))))) :: env) st) : ZOps P w0 n ops (⟨some t, .binOp .gtr t1 x y t2, ty, pos, after, some (j, want)⟩ :: rest) Q env st :=
  zs_genL hg ht (fun hc _ hk' => (zp_gtr rfl (hx hc) (hy hc)).opK rfl (Nat.le_of_ble_eq_true ht) hk') hk
theorem zs_h_geq (fs : List Nat) {k : IntKind} {a b : Int} {j : Nat} {want c : Bool} (hS : okd fs t = true) (hg : GC ops env j want c) (ht : Nat.ble (t + 1) n = true)  (hx : c = true → ev env x = some (.v (.int k a))) (hy : c = true → ev env y = some (.v (.int k b)))
    (hk : ZOps P w0 n ops rest Q ((t, gd c (.v (.bool (decide (b ≤ a))))) :: env) st) : ZOps P w0 n ops (⟨some t, .binOp .geq t1 x y t2, ty, pos, after, some (j, want)⟩ :: rest) Q env st :=
  zs_genL hg ht (fun hc _ hk' => (zp_geq rfl (hx hc) (hy hc)).opK rfl (Nat.le_of_ble_eq_true ht) hk') hk
theorem zs_h_len (fs : List Nat) {e : TypeId} {xs : List (List D)} {k tk : Nat} {j : Nat} {want c : Bool} (hS : okd fs t = true) (hg : GC ops env j want c) (ht : Nat.ble (t + 1) n = true) (ht1 : P.underlying t1 = some (.slice e)) (hx : c = true → ev env x = some (.row xs k tk))
    (hk : ZOps P w0 n ops rest Q ((t, gd c (.v (.int .i64 xs.length))) :: env) st) : ZOps P w0 n ops (⟨some t, .call { callee := .builtin .len, args := #[x], argTypes := #[t1] }, ty, pos, after, some (j, want)⟩ :: rest) Q env st :=
  zs_genL hg ht (fun hc _ hk' => (zp_len rfl ht1 (hx hc)).opK rfl (Nat.le_of_ble_eq_true ht) hk') hk
end
end Go.Proofs.Zm
/- The framework's thirty-eighth part: what a call owns, by the operation's form: allocations, stores, appends, literals; rows within structs that are given away. -/
namespace Go.Proofs.Zm
open Go.RowKit
set_option linter.unusedVariables false
set_option linter.unusedSimpArgs false
theorem cells_orow (o : Option Nat) (m c : Nat) : cellsD (orow o m c) = [orow o m c] := by cases o <;> rfl
variable {P : Program} {w0 : World} {n : Nat} {env : Env} {st st0 : St} {Q Q1 : ZPost} {ops : Array Oper} {t : Nat} {rest : List Oper} {x y z : Operand} {t1 t2 ty : TypeId} {pos : String} {after : Array Edge} {o : Oper} {K : D → St → Prop} {L : List (Option Nat × List D)}
/-- New memory beside what is owned. -/
theorem zv_salloc {e k by_ : Nat} {zz : List D} (hop : o.op = .alloc e) (he : ElemOk P e k by_ zz) (hz1 : ∀ d ∈ zz, oneD d = true) (hS : Sep st0 st L) (h : ∀ id st', Sep st0 st' ((some id, zz) :: L) → K (.ptr id 0) st') : ZVal P w0 n o env st K :=
  zv_alloc hop he hz1 fun id hid => h id _ (hS.alloc hid zz)
theorem zv_sbox {e : TypeId} {d : D} (hop : o.op = .box e x) (hx : ev env x = some d) (h1 : ∀ c ∈ cellsD d, oneD c = true) (hS : Sep st0 st L) (h : ∀ id st', Sep st0 st' ((some id, cellsD d) :: L) → K (.ptr id 0) st') : ZVal P w0 n o env st K :=
  zv_box hop hx h1 fun id hid => h id _ (hS.alloc hid _)
theorem flatten_rep {k : Nat} {z : List D} (hz : z.length = k) (c : Nat) : (List.replicate c z).flatten.length = c * k := by
  rw [List.length_flatten]; simp [hz]
/-- A store into what is owned. -/
theorem zop_sstore {K : Env → St → Prop} {tt : TypeId} {ag : Bool} {k i id off : Nat} {cs cs' : List D} {d : D} (hop : o.op = .store tt x y) (hd : o.dst = none) (hx : ev env x = some (.ptr id off)) (hy : ev env y = some d) (hs : shapeIs P tt ag k) (hS : Sep st0 st L) (hi : L[i]? = some (some id, cs))
    (hk : (cellsD d).length = k) (h1 : ∀ c ∈ cellsD d, oneD c = true) (hoff : off + k ≤ cs.length) (hc : cs.take off ++ cellsD d ++ cs.drop (off + k) = cs') (h : ∀ st', Sep st0 st' (L.set i (some id, cs')) → K env st') : ZOp P w0 n o env st K := by
  subst hc
  exact zop_store hop hd hs hx (hS.at_ hi) hy hk h1 hoff (h _ (hS.put hi _))
theorem zs_sstore {ag : Bool} {k i id off : Nat} {cs cs' : List D} {d : D} (hx : ev env x = some (.ptr id off)) (hy : ev env y = some d) (hs : shapeIs P t1 ag k) (hS : Sep st0 st L) (hi : L[i]? = some (some id, cs))
    (hk : (cellsD d).length = k) (h1 : ∀ c ∈ cellsD d, oneD c = true) (hoff : off + k ≤ cs.length) (hc : cs.take off ++ cellsD d ++ cs.drop (off + k) = cs') (h : ∀ st', Sep st0 st' (L.set i (some id, cs')) → ZOps P w0 n ops rest Q env st') :
    ZOps P w0 n ops (⟨none, .store t1 x y, ty, pos, after, none⟩ :: rest) Q env st := zo_cons rfl (zop_sstore rfl rfl hx hy hs hS hi hk h1 hoff hc h)
theorem zs_salloc {k by_ : Nat} {zz : List D} (ht : Nat.ble (t + 1) n = true) (he : ElemOk P t1 k by_ zz) (hz1 : ∀ d ∈ zz, oneD d = true) (hS : Sep st0 st L) (h : ∀ id st', Sep st0 st' ((some id, zz) :: L) → ZOps P w0 n ops rest Q ((t, .ptr id 0) :: env) st') :
    ZOps P w0 n ops (⟨some t, .alloc t1, ty, pos, after, none⟩ :: rest) Q env st := zo_val rfl rfl (Nat.le_of_ble_eq_true ht) (zv_salloc rfl he hz1 hS h)
theorem zs_sbox {d : D} (ht : Nat.ble (t + 1) n = true) (hx : ev env x = some d) (h1 : ∀ c ∈ cellsD d, oneD c = true) (hS : Sep st0 st L) (h : ∀ id st', Sep st0 st' ((some id, cellsD d) :: L) → ZOps P w0 n ops rest Q ((t, .ptr id 0) :: env) st') :
    ZOps P w0 n ops (⟨some t, .box t1 x, ty, pos, after, none⟩ :: rest) Q env st := zo_val rfl rfl (Nat.le_of_ble_eq_true ht) (zv_sbox rfl hx h1 hS h)
/-- Elements appended to an owned row. -/
theorem zs_sapp {e k by_ tk m c i : Nat} {zz : List D} {s x : Operand} {ts1 : TypeId} {ob : Option Nat} {full cells : List D} {ys : List (List D)} (ht : Nat.ble (t + 1) n = true) (hs : ev env s = some (orow ob m c)) (hx : ev env x = some (.row ys k tk)) (ht1 : P.underlying ts1 = some (.slice e)) (he : ElemOk P e k by_ zz) (hz1 : ∀ d ∈ zz, oneD d = true)
    (hS : Sep st0 st L) (hi : L[i]? = some (ob, full)) (hg : GRow ob full k m c cells) (hb : (m + ys.length) * by_ ≤ 140737488355328)
    (h : ∀ o' c' full' st', Sep st0 st' (L.set i (o', full')) → GRow o' full' k (m + ys.length) c' (cells ++ ys.flatten) → ZOps P w0 n ops rest Q ((t, orow o' (m + ys.length) c') :: env) st') :
    ZOps P w0 n ops (⟨some t, .call { callee := .builtin .append, args := #[s, x], argTypes := #[ts1, ts1] }, ty, pos, after, none⟩ :: rest) Q env st :=
  zo_val rfl rfl (Nat.le_of_ble_eq_true ht) (zv_sapp rfl he hz1 ht1 hs hS hi hg hx hb h)
/-- A slice literal that is only read. -/
theorem zv_litR {ts e k by_ len : Nat} {zz : List D} {xs : List Operand} {ds : List D} (rows : List (List D)) (hop : o.op = .buildSlice ts len (xs.zipIdx.map fun p => (p.2, p.1)).toArray) (hlen : xs.length = len)
    (hx : evs env xs = some ds) (ht : P.underlying ts = some (.slice e)) (he : ElemOk P e k by_ zz) (hr : ds.map cellsD = rows) (hk : ∀ r ∈ rows, r.length = k ∧ ∀ c ∈ r, oneD c = true) (hsmall : len * k ≤ 2 ^ 24) (h : K (.row rows k 0) st) : ZVal P w0 n o env st K := by
  subst hr
  exact zv_lit hop hlen he ht hx (fun d hd => hk _ (List.mem_map.2 ⟨d, hd, rfl⟩)) hsmall h
theorem zs_lit {e k by_ len : Nat} {zz : List D} (xs : List Operand) {arr : Array (Nat × Operand)} {ds : List D} {rows : List (List D)} (ht : Nat.ble (t + 1) n = true) (harr : (xs.zipIdx.map fun p => (p.2, p.1)).toArray = arr) (hlen : xs.length = len) (hx : evs env xs = some ds) (ht1 : P.underlying t1 = some (.slice e)) (he : ElemOk P e k by_ zz) (hr : ds.map cellsD = rows)
    (hk : ∀ r ∈ rows, r.length = k ∧ ∀ c ∈ r, oneD c = true) (hsmall : len * k ≤ 2 ^ 24) (h : ZOps P w0 n ops rest Q ((t, .row rows k 0) :: env) st) :
    ZOps P w0 n ops (⟨some t, .buildSlice t1 len arr, ty, pos, after, none⟩ :: rest) Q env st := by
  subst harr
  exact zo_val rfl rfl (Nat.le_of_ble_eq_true ht) (zv_litR rows rfl hlen hx ht1 he hr hk hsmall h)
/-! ### rows within structs, given away -/
/-- Behind the giving away of o (for r), what stood for a value by d does so by d'. -/
def DFz (o r d d' : D) : Prop := ∀ G : Gh, (∀ u, VR G o u → VR G r u) → ∀ u, VR G d u → VR G d' u
theorem DFz.row {o r : D} : DFz o r o r := fun G h u => h u
inductive DFzs (o r : D) : List D → List D → Prop where
  | nil : DFzs o r [] []
  | cons {d e : D} {ds es : List D} (h : DFz o r d e) (hs : DFzs o r ds es) : DFzs o r (d :: ds) (e :: es)
theorem DFzs.get {o r : D} {ds es : List D} (h : DFzs o r ds es) : ∀ (j : Nat) (e : D), es[j]? = some e → ∃ d, ds[j]? = some d ∧ DFz o r d e := by
  induction h with
  | nil => intro j e h; simp at h
  | cons h hs ih =>
    intro j e he
    cases j with
    | zero => simp at he; subst he; exact ⟨_, rfl, h⟩
    | succ j => simp at he; obtain ⟨d, h1, h2⟩ := ih j e he; exact ⟨d, by simpa using h1, h2⟩
theorem frz_step {w : World} {G : Gh} {ob : Option Nat} {full cells : List D} {k m c i : Nat} (xs : List (List D)) (k0 : 0 < k) (hS : Sep st0 st L) (hi : L[i]? = some (ob, full)) (hg : GRow ob full k m c cells) (hx : xs.flatten = cells) (hk : ∀ x ∈ xs, x.length = k) (hr : Rel w0 G st w) :
    ∃ G' st', G.le G' ∧ Rel w0 G' st' w ∧ Sep st0 st' (L.eraseIdx i) ∧ ∀ G2, G'.le G2 → ∀ u, VR G2 (orow ob m c) u → VR G2 (.row xs k 0) u := by
  have hxl : xs.length = m := by
    have h1 := flatten_len xs hk
    rw [hx, hg.length] at h1
    exact (Nat.eq_of_mul_eq_mul_right k0 h1).symm
  cases ob with
  | some id =>
    have hH := hS.at_ hi
    have hidn := hr.nxle hH
    obtain ⟨G', hle, hrel, hnx, c', hl, h1, hv, hM, hrho⟩ := hr.freeze hH
    refine ⟨G', _, hle, hrel, hS.drop hi, fun G2 hle2 u hu => ?_⟩
    have hq : Frz id full (.mrow id 0 m c) (.row xs k 0) := Frz.mrow 0 m c k xs hxl hk (by rw [List.drop_zero, hg.cells, hx])
    have hrid : G2.rho id = G.rho id := by rw [hle2.rho id (Nat.lt_of_lt_of_le hidn hle.nx), hrho]
    have hu0 : VR G (.mrow id 0 m c) u := by
      cases hu with
      | mrow _ _ _ _ hid hc hm63 => rw [hrid]; exact .mrow id 0 m c hidn hc hm63
    exact (hq.ok hle hrho hl h1 hv hM hu0).mono hle2
  | none =>
    refine ⟨G, st, .refl G, hr, hS.erase i, fun G2 _ u hu => ?_⟩
    have hm : m = 0 := by have := hg.nil rfl; have := hg.room; omega
    rw [hm] at hxl
    have : xs = [] := List.length_eq_zero_iff.1 hxl
    subst this
    have := hu.eq_v
    subst this
    exact .rowNil k 0 (.inl rfl)
/-- Slots behind it. -/
def FzDE (o r : D) (env : Env) (ks : List Nat) (env1 : Env) : Prop := ∀ s d', zlook env1 s = some d' → ∃ d, zlook env s = some d ∧ DFz o r d d'
theorem fzd_nil {o r : D} : FzDE o r env [] [] := fun s d' e => by simp [zlook] at e
theorem fzd_cons {o r : D} {s : Nat} {ks : List Nat} {d d' : D} {env1 : Env} (h : zlook env s = some d) (hd : DFz o r d d') (hs : FzDE o r env ks env1) : FzDE o r env (s :: ks) ((s, d') :: env1) := fun q e hz => by
  unfold zlook at hz
  split at hz
  · rename_i h0; subst h0; cases hz; exact ⟨d, h, hd⟩
  · exact hs q e hz
theorem sfz_main {G : Gh} {w : World} {ob : Option Nat} {full cells : List D} {k m c i : Nat} {tmps : Array Value} {ks : List Nat} {env1 : Env} (xs : List (List D)) (k0 : 0 < k) (hS : Sep st0 st L) (hi : L[i]? = some (ob, full)) (hg : GRow ob full k m c cells)
    (hx : xs.flatten = cells) (hk : ∀ x ∈ xs, x.length = k) (hE : FzDE (orow ob m c) (.row xs k 0) env ks env1) (hr : Rel w0 G st w) (he : ER G n env tmps) : ∃ G' st', G.le G' ∧ Rel w0 G' st' w ∧ ER G' n env1 tmps ∧ Sep st0 st' (L.eraseIdx i) := by
  obtain ⟨G', st', hle, hrel, hS', hf⟩ := frz_step xs k0 hS hi hg hx hk hr
  refine ⟨G', st', hle, hrel, ⟨he.size, fun g j v q => hle.M _ _ (he.gl g j v q), fun s d' hz => ?_⟩, hS'⟩
  obtain ⟨d, h1, h2⟩ := hE s d' hz
  obtain ⟨u, hu, hv⟩ := he.at_ s d h1
  exact ⟨u, hu, h2 G' (hf G' (.refl G')) u (hv.mono hle)⟩
theorem zr_sfz {cd : Code} (i : Nat) {ob : Option Nat} {full cells : List D} {k m c : Nat} {env1 : Env} (ks : List Nat) (xs : List (List D)) (k0 : 0 < k) (hS : Sep st0 st L) (hi : L[i]? = some (ob, full)) (hg : GRow ob full k m c cells)
    (hx : xs.flatten = cells) (hk : ∀ x ∈ xs, x.length = k) (hE : FzDE (orow ob m c) (.row xs k 0) env ks env1) (h : ∀ st', Sep st0 st' (L.eraseIdx i) → ZWp P w0 n cd Q env1 st') : ZWp P w0 n cd Q env st := by
  intro G w a hr he hd
  obtain ⟨G', st', hle, hr', he', hS'⟩ := sfz_main xs k0 hS hi hg hx hk hE hr he
  exact Code.wp_mono (Outc.mono hle (fun _ _ _ h => h)) (h st' hS' G' w a hr' he' hd)
/-- Owned rows of a result. -/
structure OR where
  ob : Option Nat
  full : List D
  k : Nat
  c : Nat
  xs : List (List D)
structure OR.ok (r : OR) : Prop where
  k0 : 0 < r.k
  g : GRow r.ob r.full r.k r.xs.length r.c r.xs.flatten
  len : ∀ x ∈ r.xs, x.length = r.k
def OR.own (r : OR) : D := orow r.ob r.xs.length r.c
def OR.row (r : OR) : D := .row r.xs r.k 0
theorem one_nil : ∀ c ∈ ([] : List D), oneD c = true := fun c h => by simp at h
theorem one_cons {d : D} {l : List D} (h : oneD d = true) (hs : ∀ c ∈ l, oneD c = true) : ∀ c ∈ d :: l, oneD c = true := fun c hc => by
  rcases List.mem_cons.1 hc with rfl | hc
  · exact h
  · exact hs c hc
theorem lit_nil {k : Nat} : ∀ r ∈ ([] : List (List D)), r.length = k ∧ ∀ c ∈ r, oneD c = true := fun c h => by simp at h
theorem lit_cons {k : Nat} {r : List D} {l : List (List D)} (h : r.length = k) (h1 : ∀ c ∈ r, oneD c = true) (hs : ∀ r ∈ l, r.length = k ∧ ∀ c ∈ r, oneD c = true) : ∀ q ∈ r :: l, q.length = k ∧ ∀ c ∈ q, oneD c = true := fun c hc => by
  rcases List.mem_cons.1 hc with rfl | hc
  · exact ⟨h, h1⟩
  · exact hs c hc
/-! ### parts of a struct -/
theorem fillD_cons {pl : List (Nat × Nat)} {cells out mid : List D} {i off size : Nat} {d : D} {r : List (Nat × D)} (hp : pl[i]? = some (off, size)) (h1 : (cellsD d).length = size) (h2 : off + size ≤ cells.length)
    (hm : cells.take off ++ cellsD d ++ cells.drop (off + size) = mid) (h : fillD pl mid r = some out) : fillD pl cells ((i, d) :: r) = some out := by
  subst hm
  unfold fillD; rw [hp]; simp only; rw [if_pos ⟨h1, h2⟩]; exact h
theorem cD_int {k : IntKind} {n : Int} : cellsD (.v (.int k n)) = [.v (.int k n)] := rfl
theorem cD_bool {b : Bool} : cellsD (.v (.bool b)) = [.v (.bool b)] := rfl
theorem cD_float {k : FloatKind} {b : Nat} : cellsD (.v (.float k b)) = [.v (.float k b)] := rfl
theorem cD_nil {a : Option Addr} {n c : Nat} : cellsD (.v (.slice a n c)) = [.v (.slice a n c)] := rfl
theorem cD_ptr0 {a : Option Addr} : cellsD (.v (.pointer a)) = [.v (.pointer a)] := rfl
theorem cD_str {s : ByteArray} : cellsD (.v (.string s)) = [.v (.string s)] := rfl
theorem cD_row {xs : List (List D)} {k t : Nat} : cellsD (.row xs k t) = [.row xs k t] := rfl
theorem cD_mrow {i o m c : Nat} : cellsD (.mrow i o m c) = [.mrow i o m c] := rfl
theorem cD_ptr {i o : Nat} : cellsD (.ptr i o) = [.ptr i o] := rfl
theorem cD_ref {cs : List D} : cellsD (.ref cs) = [.ref cs] := rfl
theorem cD_fn {f : FuncId} {cs : List D} : cellsD (.fn f cs) = [.fn f cs] := rfl
theorem cD_agg {cs : List D} : cellsD (.agg cs) = cs := rfl
end Go.Proofs.Zm
/- The framework's thirty-ninth part: regions that draw their order, beside own memory that stands until certain operations (which wait for those who read it). -/
namespace Go.Proofs.Zm
open Go.RowKit
set_option linter.unusedVariables false
set_option linter.unusedSimpArgs false
/-- None of these has come up. -/
def clean (brk : List Nat) (listed : Array Bool) : Bool := brk.all fun j => !listed.getD j false
theorem getD_setF {l : Array Bool} {i j : Nat} (h : i ≠ j) : (l.setIfInBounds i true).getD j false = l.getD j false := by
  rw [Array.getD_eq_getD_getElem?, Array.getD_eq_getD_getElem?, Array.getElem?_setIfInBounds_ne h]
theorem clean_set {brk : List Nat} {listed : Array Bool} {j : Nat} (h : brk.contains j = false) : clean brk (listed.setIfInBounds j true) = clean brk listed := by
  unfold clean
  have h : ∀ x ∈ brk, x ≠ j := fun x hx e => by subst e; simp [hx] at h
  refine Bool.eq_iff_iff.2 ?_
  simp only [List.all_eq_true]
  constructor
  · intro q x hx
    have := q x hx
    rwa [getD_setF (Ne.symm (h x hx))] at this
  · intro q x hx
    rw [getD_setF (Ne.symm (h x hx))]; exact q x hx
section
variable {P : Program} {ops : Array Oper} {Q : Exit → Act → World → Prop} {md : Region.Mode} {T : Bool → World → Prop} {brk : List Nat}
def wpAnyC (P : Program) (md : Region.Mode) (ops : Array Oper) (Q : Exit → Act → World → Prop) (T : Bool → World → Prop) (brk : List Nat) : Nat → Array Bool → Act → World → Prop
  | 0, l, a, w => Region.ready md ops l = [] ∧ Q .normal a w
  | k + 1, l, a, w => (Region.ready md ops l = [] → Q .normal a w) ∧ ∀ i, i ∈ Region.ready md ops l → wpOp P ops Q i (fun a1 w1 => T (clean brk (l.setIfInBounds i true)) w1 ∧ wpAnyC P md ops Q T brk k (l.setIfInBounds i true) a1 w1) a w
theorem wpAnyC_any : ∀ (k : Nat) (l : Array Bool) (a : Act) (w : World), wpAnyC P md ops Q T brk k l a w → wpAny P md ops Q k l a w
  | 0, _, _, _, h => h
  | k + 1, _, _, _, h => ⟨h.1, fun i hi => wpOp_mono (fun a1 w1 q => wpAnyC_any k _ a1 w1 q.2) (h.2 i hi)⟩
theorem wpAnyC_first {i : Nat} {oi : Oper} {v : Value} {S : World → Prop} {C : Array Bool → Prop} (hi : ops[i]? = some oi) (hsel : ∀ (j : Nat) (o : Oper) cs b, ops[j]? = some o → o.op ≠ .select cs b)
    (hQ : ∀ c a w, Q (.panic c) (a.put oi.dst v) w → Q (.panic c) a w) (hib : brk.contains i = false)
    (hCj : ∀ l j oj, C l → ops[j]? = some oj → (∀ e ∈ oj.after, Region.binds md e = true → e.on ≠ i) → C (l.setIfInBounds j true)) (hST : ∀ l, C l → ∀ w, T (clean brk l) w → S w) :
    ∀ (k : Nat) (l : Array Bool) (a : Act) (w : World),
      (∀ j oj, ops[j]? = some oj → j ≠ i → l.getD j true = false → (∀ e ∈ oj.after, Region.binds md e = true → e.on ≠ i) → oi.apart ops oj = true) →
      i ∈ Region.ready md ops l → YieldsIf P ops S oi v a → C l → T (clean brk l) w →
      wpAnyC P md ops Q T brk k (l.setIfInBounds i true) (a.put oi.dst v) w → wpAnyC P md ops Q T brk (k + 1) l a w := by
  intro k
  induction k with
  | zero =>
    intro l a w _ hr hy hC hT H
    refine ⟨fun h => (by rw [h] at hr; cases hr), fun j hj => ?_⟩
    by_cases hji : j = i
    · subst hji; exact hy.wpOp hi (hST l hC w hT) ⟨(clean_set hib).symm ▸ hT, H⟩
    · exact absurd (H.1 ▸ ready_mono hj hji) (by simp)
  | succ k ih =>
    intro l a w hfree hr hy hC hT H
    refine ⟨fun h => (by rw [h] at hr; cases hr), fun j hj => ?_⟩
    by_cases hji : j = i
    · subst hji; exact hy.wpOp hi (hST l hC w hT) ⟨(clean_set hib).symm ▸ hT, H⟩
    have h1 := H.2 j (ready_mono hj hji)
    obtain ⟨hjun, oj, hoj, hall⟩ := mem_ready.1 hj
    have hnot : ∀ e ∈ oj.after, Region.binds md e = true → e.on ≠ i := fun e he hb heq => by
      have q1 := hall e he hb
      have q0 := (mem_ready.1 hr).1
      rw [heq] at q1
      rcases Nat.lt_or_ge i l.size with h' | h'
      · simp [h'] at q0 q1; rw [q0] at q1; cases q1
      · simp [Array.getElem?_eq_none h'] at q1
    have h2 := wpOp_putIf hoj (hfree j oj hoj hji hjun hnot) (fun cs b => hsel i oi cs b hi) (fun cs b => hsel j oj cs b hoj) hQ hy h1
    have hfree' : ∀ q oq, ops[q]? = some oq → q ≠ i → (l.setIfInBounds j true).getD q true = false → (∀ e ∈ oq.after, Region.binds md e = true → e.on ≠ i) → oi.apart ops oq = true := fun q oq hq hqi hun hno => by
      refine hfree q oq hq hqi ?_ hno
      by_cases hjq : j = q
      · subst hjq; exact hjun
      · rw [getD_set_ne true hjq] at hun; exact hun
    refine wpOp_mono (fun a1 w1 h3 => ?_) h2
    have e1 : clean brk ((l.setIfInBounds i true).setIfInBounds j true) = clean brk (l.setIfInBounds j true) := by rw [Array.setIfInBounds_comm _ _ (Ne.symm hji)]; exact clean_set hib
    have hT1 := h3.2.1
    rw [e1] at hT1
    refine ⟨hT1, ih (l.setIfInBounds j true) a1 w1 hfree' (ready_mono hr (Ne.symm hji)) h3.1 (hCj l j oj hC hoj hnot) hT1 ?_⟩
    rw [Array.setIfInBounds_comm _ _ hji]
    exact h3.2.2
end

/-- The world beside own memory. -/
def TB (G : Gh) (B : List (Nat × List D)) (b : Bool) (w : World) : Prop := G.Holds w ∧ (b = true → BH G B w)
def ZAnyC (P : Program) (w0 : World) (n : Nat) (ops : Array Oper) (Q : ZPost) (B : List (Nat × List D)) (brk : List Nat) (fuel : Nat) (listed : Array Bool) (env : Env) (st : St) : Prop :=
  ∀ G w a, Rel w0 G st w → ER G n env a.tmps → a.defers = [] → wpAnyC P .any ops (Outc w0 n Q G) (TB G B) brk fuel listed a w
def ZC (P : Program) (w0 : World) (n : Nat) (ops : Array Oper) (Q : ZPost) (B : List (Nat × List D)) (brk : List Nat) (fuel : Nat) (listed : Array Bool) (env : Env) (st : St) : Prop := (clean brk listed = true → BOwn B st) ∧ ZAnyC P w0 n ops Q B brk fuel listed env st
/-- Who may write waits for number i. -/
def waitsFor (ops : Array Oper) (brk : List Nat) (i : Nat) : Bool := brk.all fun j => match ops[j]? with | some o => o.after.any (fun e => Region.binds .any e && e.on == i) | none => false
section
variable {P : Program} {w0 : World} {n : Nat} {Q Q1 : ZPost} {env : Env} {st : St} {ops : Array Oper} {fuel : Nat} {listed : Array Bool} {B : List (Nat × List D)} {brk : List Nat}
theorem zc_begin {id m : Nat} (B : List (Nat × List D)) (brk : List Nat) (hm : P.follows .mixedOrders = true) (hs : ops.size = m) (h : ZC P w0 n ops Q B brk m (Array.replicate m false) env st) : ZWp P w0 n (.region id ops true) Q env st := by
  intro G w a hr he hd
  subst hs
  exact wp_region_any hm (wpAnyC_any _ _ _ _ (h.2 G _ a (hr.drawn _) he hd))
theorem TB.of {w0 : World} {G : Gh} {st : St} {w : World} {b : Bool} (hr : Rel w0 G st w) (hB : b = true → BOwn B st) : TB G B b w := ⟨hr.mem, fun e => (hB e).holds hr⟩
theorem zc_take0 {i t : Nat} {oi : Oper} {d : D} (hi : ops[i]? = some oi) (hs : Region.noSelect ops = true) (hf : Region.free .any ops listed i = true) (hr : (Region.ready .any ops listed).contains i = true) (hib : brk.contains i = false)
    (hg : guardIs ops env oi true) (hd : oi.dst = some t) (ht : Nat.ble (t + 1) n = true) (h : ZPure P oi env d) (hk : ZC P w0 n ops Q B brk fuel (listed.setIfInBounds i true) ((t, d) :: env) st) :
    ZC P w0 n ops Q B brk (fuel + 1) listed env st := by
  have hB : clean brk listed = true → BOwn B st := fun e => hk.1 ((clean_set hib).trans e)
  refine ⟨hB, fun G w a hrel he hdf => ?_⟩
  obtain ⟨v, hv, hrun⟩ := h G n a he
  refine wpAnyC_first (C := fun _ => True) (S := G.Holds) hi (Region.noSelect_spec hs) (fun c a w h => h.elim) hib (fun _ _ _ _ _ _ => trivial) (fun l _ w hT => hT.1) fuel listed a w (Region.free_spec hi hf) (by simpa using hr) (.inl ⟨guardIs_ok he hg, fun w hw => hrun w hw⟩) trivial (TB.of hrel hB) ?_
  exact hk.2 G w _ hrel (by simpa [Act.put, hd] using he.put (Nat.le_of_ble_eq_true ht) hv) (by simpa [Act.put, hd] using hdf)
theorem zc_take {i t : Nat} {oi : Oper} {d : D} (hi : ops[i]? = some oi) (hs : Region.noSelect ops = true) (hf : Region.free .any ops listed i = true) (hr : (Region.ready .any ops listed).contains i = true) (hib : brk.contains i = false)
    (hcl : clean brk listed = true) (hwt : waitsFor ops brk i = true) (hg : guardIs ops env oi true) (hd : oi.dst = some t) (ht : Nat.ble (t + 1) n = true) (h : ZPureB P B oi env d) (hk : ZC P w0 n ops Q B brk fuel (listed.setIfInBounds i true) ((t, d) :: env) st) :
    ZC P w0 n ops Q B brk (fuel + 1) listed env st := by
  have hB : clean brk listed = true → BOwn B st := fun e => hk.1 ((clean_set hib).trans e)
  refine ⟨hB, fun G w a hrel he hdf => ?_⟩
  have hbh := (hB hcl).holds hrel
  obtain ⟨v, hv, hrun⟩ := h G n a he ⟨w, hbh⟩
  refine wpAnyC_first (C := fun l => clean brk l = true) (S := fun w => G.Holds w ∧ BH G B w) hi (Region.noSelect_spec hs) (fun c a w h => h.elim) hib (fun l j oj hC hoj hno => ?_) (fun l hC w hT => ⟨hT.1, hT.2 hC⟩) fuel listed a w (Region.free_spec hi hf) (by simpa using hr)
    (.inl ⟨guardIs_ok he hg, fun w hw => hrun w hw.1 hw.2⟩) hcl (TB.of hrel hB) ?_
  · have hj : brk.contains j = false := by
      cases e : brk.contains j with
      | false => rfl
      | true =>
        have := List.all_eq_true.1 hwt j (by simpa using e)
        rw [hoj] at this
        obtain ⟨x, hx, hxe⟩ := Array.any_eq_true'.1 this
        simp only [Bool.and_eq_true, beq_iff_eq] at hxe
        exact absurd hxe.2 (hno x hx hxe.1)
    rw [clean_set hj]; exact hC
  · exact hk.2 G w _ hrel (by simpa [Act.put, hd] using he.put (Nat.le_of_ble_eq_true ht) hv) (by simpa [Act.put, hd] using hdf)
theorem zc_notU {i : Nat} {oi : Oper} (hi : ops[i]? = some oi) (hs : Region.noSelect ops = true) (hf : Region.free .any ops listed i = true) (hr : (Region.ready .any ops listed).contains i = true) (hib : brk.contains i = false)
    (hg : guardIs ops env oi false ∨ ∃ j t want, oi.guard = some (j, want) ∧ (ops[j]?).bind (·.dst) = some t ∧ zlook env t = some (.v undef)) (hd : (oi.dst.all fun d => Nat.ble (d + 1) n) = true)
    (hk : ZC P w0 n ops Q B brk fuel (listed.setIfInBounds i true) (undefE env oi.dst) st) : ZC P w0 n ops Q B brk (fuel + 1) listed env st := by
  have hB : clean brk listed = true → BOwn B st := fun e => hk.1 ((clean_set hib).trans e)
  refine ⟨hB, fun G w a hrel he hdf => ?_⟩
  have hw : Region.wanted oi (yielded ops a.tmps) = false := by
    rcases hg with hg | ⟨j, t, want, h1, h2, h3⟩
    · exact guardIs_ok he hg
    · exact g_undef h1 h2 h3 he
  refine wpAnyC_first (C := fun _ => True) (S := G.Holds) (v := undef) hi (Region.noSelect_spec hs) (fun c a w h => h.elim) hib (fun _ _ _ _ _ _ => trivial) (fun l _ w hT => hT.1) fuel listed a w (Region.free_spec hi hf) (by simpa using hr) (.inr ⟨hw, rfl⟩) trivial (TB.of hrel hB) ?_
  refine hk.2 G w _ hrel (er_undef he fun d e => ?_) (by cases h : oi.dst <;> simp [Act.put, hdf])
  rw [e] at hd
  exact Nat.le_of_ble_eq_true (by simpa using hd)
def ZOneC (P : Program) (w0 : World) (n : Nat) (ops : Array Oper) (Q : ZPost) (B : List (Nat × List D)) (brk : List Nat) (fuel : Nat) (listed : Array Bool) (env : Env) (st : St) (i : Nat) : Prop :=
  ∀ G w a, Rel w0 G st w → ER G n env a.tmps → a.defers = [] → wpOp P ops (Outc w0 n Q G) i (fun a' w' => TB G B (clean brk (listed.setIfInBounds i true)) w' ∧ wpAnyC P .any ops (Outc w0 n Q G) (TB G B) brk fuel (listed.setIfInBounds i true) a' w') a w
theorem zc_all {rs : List Nat} (hB : clean brk listed = true → BOwn B st) (hr : Region.ready .any ops listed = rs) (hne : rs ≠ []) (h : ∀ i ∈ rs, ZOneC P w0 n ops Q B brk fuel listed env st i) : ZC P w0 n ops Q B brk (fuel + 1) listed env st :=
  ⟨hB, fun G w a h1 h2 h3 => ⟨fun h0 => absurd (hr ▸ h0) hne, hr ▸ fun i hi => h i hi G w a h1 h2 h3⟩⟩
theorem clean_le {brk : List Nat} {listed : Array Bool} {i : Nat} (h : clean brk (listed.setIfInBounds i true) = true) : clean brk listed = true := by
  unfold clean at h ⊢
  rw [List.all_eq_true] at h ⊢
  intro j hj
  have := h j hj
  by_cases e : i = j
  · subst e
    cases q : listed.getD i false with
    | false => rfl
    | true =>
      have hlt : i < listed.size := by
        rcases Nat.lt_or_ge i listed.size with h' | h'
        · exact h'
        · simp [Array.getElem?_eq_none h'] at q
      simp [hlt] at this
  · rwa [getD_setF e] at this
theorem zoneC_op {i : Nat} {oi : Oper} (hB : clean brk listed = true → BOwn B st) (hi : ops[i]? = some oi) (hg : guardIs ops env oi true) (h : ZOp P w0 n oi env st (ZC P w0 n ops Q B brk fuel (listed.setIfInBounds i true))) : ZOneC P w0 n ops Q B brk fuel listed env st i := by
  intro G w a h1 h2 h3
  unfold wpOp
  simp only [hi, guardIs_ok h2 hg, if_true]
  left
  have hbh := fun e => (hB e).holds h1
  have hback : ∀ {G' : Gh} {b : Bool} {w' : World}, G.le G' → (b = true → clean brk listed = true) → TB G' B b w' → TB G B b w' := fun hle hb hT => ⟨fun x u e => hT.1 x u (hle.M x u e), fun e => BH.back hle (hbh (hb e)) (hT.2 e)⟩
  have hall : ∀ {G' : Gh} {k : Nat} {l : Array Bool} {a' : Act} {w' : World}, G.le G' → (clean brk l = true → clean brk listed = true) → wpAnyC P .any ops (Outc w0 n Q G') (TB G' B) brk k l a' w' → wpAnyC P .any ops (Outc w0 n Q G) (TB G B) brk k l a' w' := by
    intro G' k
    induction k with
    | zero => intro l a' w' hle hb h; exact ⟨h.1, Outc.mono hle (fun _ _ _ h => h) _ _ _ h.2⟩
    | succ k ih =>
      intro l a' w' hle hb h
      refine ⟨fun e => Outc.mono hle (fun _ _ _ h => h) _ _ _ (h.1 e), fun j hj => wpOp_mono2 (Outc.mono hle (fun _ _ _ h => h)) (fun a1 w1 q => ?_) (h.2 j hj)⟩
      have hb' : clean brk (l.setIfInBounds j true) = true → clean brk listed = true := fun e => hb (clean_le e)
      exact ⟨hback hle hb' q.1, ih hle hb' q.2⟩
  refine h G w a h1 h2 h3 _ _ fun G' env' st' a' w' hle hrel he hd hk _ => ⟨hback hle (fun e => clean_le e) (TB.of hrel hk.1), ?_⟩
  exact hall hle (fun e => clean_le e) (hk.2 G' w' a' hrel he hd)
theorem zc_one {i : Nat} {oi : Oper} (hB : clean brk listed = true → BOwn B st) (hr : Region.ready .any ops listed = [i]) (hi : ops[i]? = some oi) (hg : guardIs ops env oi true) (h : ZOp P w0 n oi env st (ZC P w0 n ops Q B brk fuel (listed.setIfInBounds i true))) : ZC P w0 n ops Q B brk (fuel + 1) listed env st :=
  zc_all hB hr (by simp) fun j hj => by
    simp only [List.mem_singleton] at hj
    subst hj
    exact zoneC_op hB hi hg h
theorem zc_one_val {i t : Nat} {oi : Oper} (hB : clean brk listed = true → BOwn B st) (hr : Region.ready .any ops listed = [i]) (hi : ops[i]? = some oi) (hg : guardIs ops env oi true) (hd : oi.dst = some t) (ht : Nat.ble (t + 1) n = true)
    (h : ZVal P w0 n oi env st fun d st' => ZC P w0 n ops Q B brk fuel (listed.setIfInBounds i true) ((t, d) :: env) st') : ZC P w0 n ops Q B brk (fuel + 1) listed env st :=
  zc_one hB hr hi hg (h.op hd (Nat.le_of_ble_eq_true ht))
theorem zc_all2 {i j : Nat} (hB : clean brk listed = true → BOwn B st) (hr : Region.ready .any ops listed = [i, j]) (h1 : ZOneC P w0 n ops Q B brk fuel listed env st i) (h2 : ZOneC P w0 n ops Q B brk fuel listed env st j) : ZC P w0 n ops Q B brk (fuel + 1) listed env st :=
  zc_all hB hr (by simp) fun q hq => by
    simp only [List.mem_cons, List.not_mem_nil, or_false] at hq
    rcases hq with rfl | rfl
    · exact h1
    · exact h2
theorem zc_done (hB : clean brk listed = true → BOwn B st) (hr : Region.ready .any ops listed = []) (h : Q .normal env st) : ZC P w0 n ops Q B brk fuel listed env st :=
  ⟨hB, fun G w a h1 h2 h3 => by
    have hq : Outc w0 n Q G .normal a w := ⟨G, env, st, .refl G, h1, h2, h3, h⟩
    cases fuel with
    | zero => exact ⟨hr, hq⟩
    | succ k => exact ⟨fun _ => hq, by rw [hr]; simp⟩⟩
theorem zc_end {K : Env → St → Prop} (hB : clean brk listed = true → BOwn B st) (hr : Region.ready .any ops listed = []) (h : K env st) : ZC P w0 n ops (Zthen K Q1) B brk fuel listed env st := zc_done hB hr h
theorem zc_endB {K : Env → St → Prop} {id : Nat} (hB : clean brk listed = true → BOwn B st) (hr : Region.ready .any ops listed = []) (h : K env st) : ZC P w0 n ops (Zblock id (Zthen K Q1)) B brk fuel listed env st := zc_done hB hr h
end
end Go.Proofs.Zm
/- The framework's fortieth part: values that stand for what others stand for, at one state of knowledge; lists of results. -/
namespace Go.Proofs.Zm
open Go.RowKit
set_option linter.unusedVariables false
def AtLe (G : Gh) (d e : D) : Prop := ∀ u, VR G d u → VR G e u
inductive AtLes (G : Gh) : List D → List D → Prop where
  | nil : AtLes G [] []
  | cons {d e : D} {ds es : List D} (h : AtLe G d e) (hs : AtLes G ds es) : AtLes G (d :: ds) (e :: es)
theorem AtLes.get {G : Gh} {ds es : List D} (h : AtLes G ds es) : ∀ (j : Nat) (e : D), es[j]? = some e → ∃ d, ds[j]? = some d ∧ AtLe G d e := by
  induction h with
  | nil => intro j e h; simp at h
  | cons h hs ih =>
    intro j e he
    cases j with
    | zero => simp at he; subst he; exact ⟨_, rfl, h⟩
    | succ j => simp at he; obtain ⟨d, h1, h2⟩ := ih j e he; exact ⟨d, by simpa using h1, h2⟩
section
variable {P : Program} {w0 : World} {n : Nat} {env : Env} {st : St} {Q : ZPost} {ops : Array Oper} {t : Nat} {rest : List Oper} {x : Operand} {t1 ty : TypeId} {pos : String} {after : Array Edge}
theorem zs_load_refAll {k : Nat} {cs : List D} (ht : Nat.ble (t + 1) n = true) (hx : ev env x = some (.ref cs)) (hs : shapeIs P t1 true k) (hl : cs.length = k) (hk : ZOps P w0 n ops rest Q ((t, .agg cs) :: env) st) : ZOps P w0 n ops (⟨some t, .load t1 x, ty, pos, after, none⟩ :: rest) Q env st :=
  zo_pure rfl rfl (Nat.le_of_ble_eq_true ht) (zp_load_refAll rfl hs hx hl) hk
end
section
variable {P : Program} {w0 : World} {n : Nat} {env : Env} {st : St} {Q : ZPost} {ops : Array Oper} {t : Nat} {rest : List Oper} {x y : Operand} {ty : TypeId} {pos : String} {after : Array Edge} {ts : Array TypeId} {k k' : IntKind} {a b r : Int}
theorem zs_min (ht : Nat.ble (t + 1) n = true) (hx : ev env x = some (.v (.int k a))) (hy : ev env y = some (.v (.int k' b))) (hr : min a b = r) (hk : ZOps P w0 n ops rest Q ((t, .v (.int k r)) :: env) st) : ZOps P w0 n ops (⟨some t, .call { callee := .builtin .min, args := #[x, y], argTypes := ts }, ty, pos, after, none⟩ :: rest) Q env st :=
  zo_pure0 rfl rfl (Nat.le_of_ble_eq_true ht) (zp_min rfl hx hy hr) hk
theorem zs_max (ht : Nat.ble (t + 1) n = true) (hx : ev env x = some (.v (.int k a))) (hy : ev env y = some (.v (.int k' b))) (hr : max a b = r) (hk : ZOps P w0 n ops rest Q ((t, .v (.int k r)) :: env) st) : ZOps P w0 n ops (⟨some t, .call { callee := .builtin .max, args := #[x, y], argTypes := ts }, ty, pos, after, none⟩ :: rest) Q env st :=
  zo_pure0 rfl rfl (Nat.le_of_ble_eq_true ht) (zp_max rfl hx hy hr) hk
end
end Go.Proofs.Zm
/- The framework's forty-first part: own rows cut, copied within own memory, appended from own memory, cleared. -/
namespace Go.Proofs.Zm
open Go.RowKit
set_option linter.unusedVariables false
set_option linter.unusedSimpArgs false
variable {P : Program} {w0 : World} {n : Nat} {env : Env} {st st0 : St} {o : Oper} {K : D → St → Prop} {G : Gh} {w : World}
end Go.Proofs.Zm
/- The framework's forty-second part: arguments that are owned; cuts with three bounds; own rows cut, by the operation's form; what an insertion, a deletion come to. -/
namespace Go.Proofs.Zm
open Go.RowKit
set_option linter.unusedVariables false
set_option linter.unusedSimpArgs false
/-- The state without these parts. -/
def bareL (st : St) (A : List (Option Nat × List D)) : St := { st with H := fun i => if i ∈ A.filterMap Prod.fst then none else st.H i }
/-- These are owned by who calls. -/
def OwnA (st : St) (A : List (Option Nat × List D)) : Prop := (∀ id cs, (some id, cs) ∈ A → st.H id = some cs) ∧ (A.filterMap Prod.fst).Nodup
section
variable {P : Program} {w0 : World} {n : Nat} {env : Env} {st : St} {o : Oper} {Q : ZPost} {ops : Array Oper} {t : Nat} {rest : List Oper} {x y : Operand} {t1 ty : TypeId} {pos : String} {after : Array Edge}
/-! ### three bounds -/
/-! ### own rows, cut -/
end
/-! ### what insertions and deletions come to -/
theorem ins_grow {α : Type} (F2 x y : List α) (a k N : Nat) (h : a ≤ N) (hN : N + k ≤ F2.length) (hx : x.length = k) (hy : y.length = N - a) :
    (((F2.take a ++ x ++ F2.drop (a + k)).take (a + k)) ++ y ++ (F2.take a ++ x ++ F2.drop (a + k)).drop (a + k + (N - a))).take (N + k) = F2.take a ++ x ++ y := by
  have e1 : (F2.take a).length = a := by rw [List.length_take]; omega
  have e2 : (F2.take a ++ x ++ F2.drop (a + k)).take (a + k) = F2.take a ++ x := by rw [List.take_append_of_le_length (by simp only [List.length_append]; omega), List.take_of_length_le (by simp only [List.length_append]; omega)]
  rw [e2, List.take_append_of_le_length (by simp only [List.length_append]; omega), List.take_of_length_le (by simp only [List.length_append]; omega)]
end Go.Proofs.Zm
/- The framework's forty-third part: cuts as plain operations. -/
namespace Go.Proofs.Zm
open Go.RowKit
set_option linter.unusedVariables false
variable {P : Program} {env : Env} {o : Oper} {t e k tk : Nat} {x lo hi mx : Operand} {k1 k2 k3 : IntKind} {a b : Int} {a' b' : Nat} {xs : List (List D)} {id off m c : Nat}
end Go.Proofs.Zm
/- The framework's forty-sixth part: what is read of memory that bears an owned row that was given away. -/
namespace Go.Proofs.Zm
open Go.RowKit
end Go.Proofs.Zm
/- The framework's forty-seventh part: many owned rows in one block, given away at once. -/
namespace Go.Proofs.Zm
open Go.RowKit
def DFzR (R : List OR) (d d' : D) : Prop := ∀ G : Gh, (∀ r ∈ R, ∀ u, VR G r.own u → VR G r.row u) → ∀ u, VR G d u → VR G d' u
def FzRE (R : List OR) (env : Env) (ks : List Nat) (env1 : Env) : Prop := ∀ s d', zlook env1 s = some d' → ∃ d, zlook env s = some d ∧ DFzR R d d'
section
variable {P : Program} {w0 : World} {n : Nat} {env : Env} {st st0 : St} {Q : ZPost}
end
end Go.Proofs.Zm
/- The framework's forty-fourth part: calls that answer one of many values; floats. -/
namespace Go.Proofs.Zm
open Go.RowKit Go.Proofs
/-- A call that has no effect and answers something that S holds of. -/
def PureS (P : Program) (f : FuncId) (es : List D) (S : D → Prop) : Prop := SoundF P f fun args st K => args = es ∧ ∀ d, S d → K d st
section
variable {P : Program} {w0 : World} {n : Nat} {ops rest : List Oper} {Q : Env → St → Prop} {env : Env} {st : St} {t t1 t2 : TypeId} {ty : TypeId} {pos : Nat} {after : List Nat} {x y : Operand} {o : Oper}
theorem guard_float (op : BinOp) (t : TypeId) (x y : Operand) (k k' : FloatKind) (a b : Nat) (w : World) : (eqGuard op t x y (.float k a) (.float k' b)).run P w = .ok () w := by
  unfold eqGuard
  cases op <;> simp
end
end Go.Proofs.Zm
/- The framework's forty-eighth part: sums of floats; each NaN as one. -/
namespace Go.Proofs.Zm
open Go.RowKit Go.Proofs
def oneNaN : Nat := 9221120237041090560
/-- A number, each NaN as the one. -/
def oneN (b : Nat) : Nat := if (FloatKind.f64.format.order b b != some .eq) = true then oneNaN else b
theorem oneN_nan : oneN oneNaN = oneNaN := by unfold oneN; split <;> rfl
/-- A sum. -/
def addN (a b : Nat) : Nat := match FloatKind.f64.format.add a b with
  | some r => oneN r
  | none => oneNaN
section
variable {P : Program} {w0 : World} {n : Nat} {env : Env} {st : St} {x y : Operand} {o : Oper}
end
end Go.Proofs.Zm
/- The framework's twenty-sixth part: what a row's text gives for its arguments of any plain shape (numbers, bools, strings, structs, slices of such). -/
namespace Go.Proofs.Zm
open Go.RowKit Go.ChangeShapes Go.WideShapes
set_option linter.unusedVariables false

/-- How a cell reads. -/
inductive Cs where
  | int (k : IntKind)
  | bool
  | float
  | str
  | slice (es : List Cs)

mutual
/-- A type's cells read so. -/
inductive HasSh (P : Program) : TypeId → List Cs → Prop where
  | int {t : TypeId} {k : IntKind} (h : P.underlying t = some (.int k)) : HasSh P t [.int k]
  | bool {t : TypeId} (h : P.underlying t = some .bool) : HasSh P t [.bool]
  | float {t : TypeId} (h : P.underlying t = some (.float .f64)) : HasSh P t [.float]
  | str {t : TypeId} (h : P.underlying t = some .string) : HasSh P t [.str]
  | slice {t e : TypeId} {es : List Cs} (h : P.underlying t = some (.slice e)) (he : HasSh P e es) (hc : P.cellsOf e = es.length) : HasSh P t [.slice es]
  | struct {t : TypeId} {fs : Array Field} {ss : List Cs} (h : P.underlying t = some (.struct fs)) (hf : HasShF P fs.toList 0 ss) (hc : P.cellsOf t = ss.length) : HasSh P t ss
inductive HasShF (P : Program) : List Field → Nat → List Cs → Prop where
  | nil {off : Nat} : HasShF P [] off []
  | cons {f : Field} {fs : List Field} {off : Nat} {ss rest : List Cs} (h : HasSh P f.type ss) (ho : f.offset = off) (hc : P.cellsOf f.type = ss.length) (hr : HasShF P fs (off + ss.length) rest) : HasShF P (f :: fs) off (ss ++ rest)
end

/-- What such a cell's abstract value is. -/
inductive CellOk : Cs → D → Prop where
  | int {k : IntKind} {n : Int} (h0 : k.min ≤ n) (h1 : n ≤ k.max) : CellOk (.int k) (.v (.int k n))
  | bool (b : Bool) : CellOk .bool (.v (.bool b))
  | float {b : Nat} (h : (Lit.float .f64 b).wf = true) : CellOk .float (.v (.float .f64 b))
  | str {s : ByteArray} (h : s.size ≤ maxLen) : CellOk .str (.v (.string s))
  | slice {es : List Cs} {xs : List (List D)} (hl : xs.length ≤ maxLen) (hx : ∀ (i : Nat) (x : List D), xs[i]? = some x → x.length = es.length) (hj : ∀ (i j : Nat) (x : List D) (s : Cs) (d : D), xs[i]? = some x → es[j]? = some s → x[j]? = some d → CellOk s d) : CellOk (.slice es) (.row xs es.length 0)

def CellsOk (ss : List Cs) (ds : List D) : Prop := ds.length = ss.length ∧ ∀ (j : Nat) (s : Cs) (d : D), ss[j]? = some s → ds[j]? = some d → CellOk s d
theorem CellsOk.append {a b : List Cs} {x y : List D} (h : CellsOk a x) (k : CellsOk b y) : CellsOk (a ++ b) (x ++ y) := by
  refine ⟨by rw [List.length_append, List.length_append, h.1, k.1], fun j s d h1 h2 => ?_⟩
  by_cases hj : j < a.length
  · rw [List.getElem?_append_left hj] at h1
    rw [List.getElem?_append_left (by rw [h.1]; exact hj)] at h2
    exact h.2 j s d h1 h2
  · rw [List.getElem?_append_right (by omega)] at h1
    rw [List.getElem?_append_right (by rw [h.1]; omega), h.1] at h2
    exact k.2 _ s d h1 h2
theorem CellsOk.one {s : Cs} {d : D} (h : CellOk s d) : CellsOk [s] [d] := ⟨rfl, fun j s' d' h1 h2 => by
  cases j with
  | zero => cases h1; cases h2; exact h
  | succ j => simp at h1⟩
theorem cellOk_one {s : Cs} {d : D} (h : CellOk s d) : oneD d = true := by cases h <;> rfl

abbrev GW (W : World) : Gh := ⟨fun a => W.cell? a, fun _ => 0, fun _ => (0, 0, 0), 1⟩

/-- What is read. -/
theorem read_cells {H : Type} {enc : TypeId × Value → H} {P : Program} {W : World} {base : Nat} {spare : Nat → Bool} {held : Bool} : ∀ (fuel : Nat) (t : TypeId) (ss : List Cs) (cs : List Value) (x : DataW H × List MemPlace), HasSh P t ss →
    DataW.trod enc P W base spare held fuel t cs = some x → ∃ ds, CellsOk ss ds ∧ VRs (GW W) ds cs := by
  intro fuel
  induction fuel with
  | zero => intro t ss cs x _ h; simp [DataW.trod] at h
  | succ n ih =>
    intro t ss cs x hs h
    cases hs with
    | int hu =>
      obtain ⟨m, rfl, _, hw⟩ := DataW.trod_int hu h
      have := wf_range hw
      exact ⟨_, CellsOk.one (.int this.1 this.2), VRs.cons (.v _) (VRs.nil _)⟩
    | bool hu =>
      obtain ⟨b, rfl, _⟩ := DataW.trod_bool hu h
      exact ⟨_, CellsOk.one (.bool b), VRs.cons (.v _) (VRs.nil _)⟩
    | float hu =>
      have hb : ∃ b, cs = [.float .f64 b] ∧ (Lit.float .f64 b).wf = true := by
        unfold DataW.trod at h
        rw [hu] at h
        split at h <;> simp_all
      obtain ⟨b, rfl, hw⟩ := hb
      exact ⟨_, CellsOk.one (.float hw), VRs.cons (.v _) (VRs.nil _)⟩
    | str hu =>
      obtain ⟨s, rfl, _, hl⟩ := DataW.trod_string hu h
      exact ⟨_, CellsOk.one (.str hl), VRs.cons (.v _) (VRs.nil _)⟩
    | @slice _ e es hu he hc =>
      rcases DataW.trod_slice hu h with ⟨rfl, _⟩ | ⟨a, len, cap, elems, rest, n', hn, rfl, _, _, hl, hm, hel, hget, _, _⟩
      · refine ⟨[.row [] es.length 0], CellsOk.one (.slice (Nat.zero_le _) (fun i x h => by simp at h) (fun i j x s d h => by simp at h)), VRs.cons (.rowNil _ 0 (.inl rfl)) (VRs.nil _)⟩
      · have hn' : n' = n := by omega
        subst hn'
        have hall : ∀ i, i < len → ∃ ds : List D, CellsOk es ds ∧ ∃ us : List Value, us.length = es.length ∧ VRs (GW W) ds us ∧ ∀ j, j < es.length → W.cell? ((a.add (i * es.length)).add j) = us[j]? := fun i hi => by
          have hg := hget i hi
          rw [hc, List.getElem?_eq_getElem (by omega)] at hg
          obtain ⟨us, h1, h2⟩ := Option.bind_eq_some_iff.1 hg
          obtain ⟨_, h3, h4⟩ := World.cells?_some h1
          obtain ⟨ds, h5, h6⟩ := ih e es us _ he h2
          exact ⟨ds, h5, us, h3, h6, h4⟩
        obtain ⟨f, hf⟩ : ∃ f : Nat → List D, ∀ i, i < len → CellsOk es (f i) ∧ ∃ us : List Value, us.length = es.length ∧ VRs (GW W) (f i) us ∧ ∀ j, j < es.length → W.cell? ((a.add (i * es.length)).add j) = us[j]? := by
          classical
          refine ⟨fun i => if hi : i < len then Classical.choose (hall i hi) else [], fun i hi => ?_⟩
          simp only [dif_pos hi]
          exact Classical.choose_spec (hall i hi)
        obtain ⟨g, hg⟩ : ∃ g : Nat → List Value, ∀ i, i < len → (g i).length = es.length ∧ VRs (GW W) (f i) (g i) ∧ ∀ j, j < es.length → W.cell? ((a.add (i * es.length)).add j) = (g i)[j]? := by
          classical
          refine ⟨fun i => if hi : i < len then Classical.choose (hf i hi).2 else [], fun i hi => ?_⟩
          simp only [dif_pos hi]
          exact Classical.choose_spec (hf i hi).2
        have hget' : ∀ (i : Nat) (x : List D), ((List.range len).map f)[i]? = some x → i < len ∧ x = f i := fun i x hx => by
          rw [List.getElem?_map] at hx
          obtain ⟨q, hq, rfl⟩ := Option.map_eq_some_iff.1 hx
          have hi : i < len := by have := (List.getElem?_eq_some_iff.1 hq).1; simpa using this
          rw [List.getElem?_range hi] at hq
          cases hq
          exact ⟨hi, rfl⟩
        refine ⟨[.row ((List.range len).map f) es.length 0], CellsOk.one (.slice (by simp; omega) (fun i x hx => ?_) (fun i j x s d hx h1 h2 => ?_)), VRs.cons ?_ (VRs.nil _)⟩
        · obtain ⟨hi, rfl⟩ := hget' i x hx
          exact (hf i hi).1.1
        · obtain ⟨hi, rfl⟩ := hget' i x hx
          exact (hf i hi).1.2 j s d h1 h2
        · refine .row _ es.length 0 a len cap (fun i j => if i < len ∧ j < es.length then (g i).getD j aCell else aCell) (by simp) hl hm (fun i x hx => ?_) (fun i j hi hj => ?_) (fun i j => ?_) (fun i x j d hx hd => ?_) (fun h => absurd rfl h)
          · obtain ⟨hi, rfl⟩ := hget' i x hx
            exact (hf i hi).1.1
          · obtain ⟨h1, h2, h3⟩ := hg i hi
            have h4 := h3 j hj
            rw [Addr.add_add] at h4
            simp only [hi, hj, and_self, if_true]
            show W.cell? _ = _
            rw [h4, getD_in (by omega)]
            exact List.getElem?_eq_getElem (by omega)
          · split
            · rename_i hij
              obtain ⟨h1, h2, h3⟩ := hg i hij.1
              obtain ⟨h5, h6⟩ := (hf i hij.1).1
              have hjf : j < (f i).length := by rw [h5]; exact hij.2
              rw [getD_in (by omega)]
              exact oneD_ok (h2.2 j _ _ (List.getElem?_eq_getElem hjf) (List.getElem?_eq_getElem (by omega))) (cellOk_one (h6 j _ _ (List.getElem?_eq_getElem hij.2) (List.getElem?_eq_getElem hjf)))
            · rfl
          · obtain ⟨hi, rfl⟩ := hget' i x hx
            obtain ⟨h1, h2, h3⟩ := hg i hi
            have hjl : j < es.length := by rw [← (hf i hi).1.1]; exact (List.getElem?_eq_some_iff.1 hd).1
            simp only [hi, hjl, and_self, if_true]
            rw [getD_in (by omega)]
            exact h2.2 j d _ hd (List.getElem?_eq_getElem (by omega))
    | @struct _ fs _ hu hf hc =>
      obtain ⟨xs, n', hn, _, hl, hxl, hget⟩ := DataW.trod_struct hu h
      have hn' : n' = n := by omega
      subst hn'
      rw [hc] at hl
      have key : ∀ (fl : List Field) (off i0 : Nat) (ss : List Cs), HasShF P fl off ss → off + ss.length ≤ cs.length → (∀ (i : Nat) (f : Field), fl[i]? = some f → ∃ y, DataW.trod enc P W base spare held n' f.type ((cs.drop f.offset).take (P.cellsOf f.type)) = some y) →
          ∃ ds, CellsOk ss ds ∧ VRs (GW W) ds ((cs.drop off).take ss.length) := by
        intro fl
        induction fl with
        | nil =>
          intro off i0 ss hsf hle _
          cases hsf
          exact ⟨[], ⟨rfl, fun j s d h => by simp at h⟩, by simpa using VRs.nil _⟩
        | cons f fl ihf =>
          intro off i0 ss hsf hle hy
          cases hsf with
          | @cons _ _ _ s1 rest hsh ho hcc hr =>
            rw [List.length_append] at hle
            obtain ⟨y, hy0⟩ := hy 0 f rfl
            rw [ho, hcc] at hy0
            obtain ⟨d1, h1, h2⟩ := ih f.type s1 _ y hsh hy0
            obtain ⟨d2, h3, h4⟩ := ihf (off + s1.length) (i0 + 1) rest hr (by omega) (fun i f' hf' => hy (i + 1) f' (by simpa using hf'))
            refine ⟨d1 ++ d2, h1.append h3, ?_⟩
            have e : (cs.drop off).take (s1 ++ rest).length = (cs.drop off).take s1.length ++ (cs.drop (off + s1.length)).take rest.length := by
              rw [List.length_append, List.take_add, List.drop_drop]
            rw [e]
            exact h2.append h4
      obtain ⟨ds, h1, h2⟩ := key fs.toList 0 0 ss hf (by omega) (fun i f hf' => by
        have hf2 : fs[i]? = some f := by simpa using hf'
        have hi : i < fs.size := (Array.getElem?_eq_some_iff.1 hf2).1
        exact ⟨xs[i]'(by omega), by rw [hget i f hf2]; exact List.getElem?_eq_getElem (by omega)⟩)
      rw [List.drop_zero, ← hl, List.take_length] at h2
      exact ⟨ds, h1, h2⟩

/-- Rows told by what they are made of. -/
theorem map_choose {α : Type} (f : α → List D) (p : α → Prop) (xs : List (List D)) (h : ∀ (i : Nat) (x : List D), xs[i]? = some x → ∃ a, x = f a ∧ p a) : ∃ l : List α, xs = l.map f ∧ ∀ a ∈ l, p a := by
  induction xs with
  | nil => exact ⟨[], rfl, fun a ha => by cases ha⟩
  | cons x xs ih =>
    obtain ⟨a, rfl, ha⟩ := h 0 x rfl
    obtain ⟨l, rfl, hl⟩ := ih (fun i x hx => h (i + 1) x (by simpa using hx))
    exact ⟨a :: l, rfl, fun b hb => by
      rcases List.mem_cons.1 hb with rfl | hb
      · exact ha
      · exact hl b hb⟩
theorem CellOk.toInt {k : IntKind} {d : D} (h : CellOk (.int k) d) : ∃ n, d = .v (.int k n) ∧ k.min ≤ n ∧ n ≤ k.max := by cases h with | int h0 h1 => exact ⟨_, rfl, h0, h1⟩
theorem CellOk.toRow {es : List Cs} {d : D} (h : CellOk (.slice es) d) : ∃ xs, d = .row xs es.length 0 ∧ xs.length ≤ maxLen ∧ ∀ (i : Nat) (x : List D), xs[i]? = some x → CellsOk es x := by
  cases h with
  | slice hl hx hj => exact ⟨_, rfl, hl, fun i x h => ⟨hx i x h, fun j s d h1 h2 => hj i j x s d h h1 h2⟩⟩
theorem CellsOk.cons {s : Cs} {ss : List Cs} {x : List D} (h : CellsOk (s :: ss) x) : ∃ d ds, x = d :: ds ∧ CellOk s d ∧ CellsOk ss ds := by
  obtain ⟨hl, hc⟩ := h
  cases x with
  | nil => simp at hl
  | cons d ds => exact ⟨d, ds, rfl, hc 0 s d rfl rfl, ⟨by simpa using hl, fun j s' d' h1 h2 => hc (j + 1) s' d' (by simpa using h1) (by simpa using h2)⟩⟩
theorem CellsOk.nil {x : List D} (h : CellsOk [] x) : x = [] := List.length_eq_zero_iff.1 h.1
theorem CellOk.toBytes {d : D} (h : CellOk (.slice [.int .u8]) d) : ∃ l : List UInt8, d = .row (bytesD l) 1 0 ∧ l.length ≤ maxLen := by
  obtain ⟨xs, rfl, hl, hx⟩ := h.toRow
  obtain ⟨l, rfl, _⟩ := map_choose (fun b : UInt8 => [.v (.int .u8 (b.toNat : Int))]) (fun _ => True) xs (fun i x h => by
    obtain ⟨d, ds, rfl, h1, h2⟩ := (hx i x h).cons
    obtain rfl := h2.nil
    obtain ⟨n, rfl, h3, h4⟩ := h1.toInt
    simp [IntKind.min, IntKind.max, IntKind.signed, IntKind.bits] at h3 h4
    exact ⟨UInt8.ofNat n.toNat, by simp; omega, trivial⟩)
  exact ⟨l, rfl, by simpa using hl⟩
/-- A slice of a row: how long it is at most. -/
theorem row_len {H : Type} {enc : TypeId × Value → H} {P : Program} {W : World} {base : Nat} {held : Bool} {t e : TypeId} {a : Option Addr} {len cap : Nat} {d : DataW H} {ps : List MemPlace} {ts : List TypeId} {ds : List (DataW H)} {j : Nat}
    (hsz : (DataW.weightsEach P ts ds).all (· ≤ reachBytes) = true) (ht : ts[j]? = some t) (hd : ds[j]? = some d) (hu : P.underlying t = some (.slice e)) (hB : 0 < P.bytesOf e)
    (h : DataW.Trod enc P W base (fun _ => true) held t (.slice a len cap) d ps) : len ≤ 140737488351232 := by
  obtain ⟨fuel, hf⟩ := h
  rcases DataW.trod_slice hu hf with ⟨hcs, _⟩ | ⟨a', len', cap', elems, rest, n', _, hcs, hx, _, hl, _, hel, _⟩
  · simp [Value.cells] at hcs
    omega
  · simp [Value.cells] at hcs
    obtain ⟨rfl, rfl, rfl⟩ := hcs
    obtain ⟨hx, _⟩ := Prod.mk.inj hx
    subst hx
    have z := sized_slice hsz ht hd hu
    simp only [reachBytes, List.length_map] at z
    have : len ≤ (elems.length + rest.length) * P.bytesOf e := by
      rw [hel]
      exact Nat.le_trans (Nat.le_add_right _ _) (Nat.le_mul_of_pos_right _ hB)
    omega
theorem vr_row_len {G : Gh} {xs : List (List D)} {k t : Nat} {a : Option Addr} {n c : Nat} (h : VR G (.row xs k t) (.slice a n c)) : xs.length = n := by
  cases h with
  | row _ _ _ a n c u hn => exact hn
  | rowNil => rfl
end Go.Proofs.Zm
/- The framework's fiftieth part: what a row's text gives for its arguments of any plain shape, with how long the rows within are at most. -/
namespace Go.Proofs.Zm
open Go.RowKit Go.ChangeShapes Go.WideShapes
set_option linter.unusedVariables false
mutual
/-- A type's cells read so. -/
inductive HasShR (P : Program) : TypeId → List Cs → Prop where
  | int {t : TypeId} {k : IntKind} (h : P.underlying t = some (.int k)) : HasShR P t [.int k]
  | bool {t : TypeId} (h : P.underlying t = some .bool) : HasShR P t [.bool]
  | float {t : TypeId} (h : P.underlying t = some (.float .f64)) : HasShR P t [.float]
  | str {t : TypeId} (h : P.underlying t = some .string) : HasShR P t [.str]
  | slice {t e : TypeId} {es : List Cs} (h : P.underlying t = some (.slice e)) (he : HasShR P e es) (hc : P.cellsOf e = es.length) (hb : 0 < P.bytesOf e) : HasShR P t [.slice es]
  | struct {t : TypeId} {fs : Array Field} {ss : List Cs} (h : P.underlying t = some (.struct fs)) (hf : HasShRF P fs.toList 0 ss) (hc : P.cellsOf t = ss.length) : HasShR P t ss
inductive HasShRF (P : Program) : List Field → Nat → List Cs → Prop where
  | nil {off : Nat} : HasShRF P [] off []
  | cons {f : Field} {fs : List Field} {off : Nat} {ss rest : List Cs} (h : HasShR P f.type ss) (ho : f.offset = off) (hc : P.cellsOf f.type = ss.length) (hr : HasShRF P fs (off + ss.length) rest) : HasShRF P (f :: fs) off (ss ++ rest)
end

/-- What such a cell's abstract value is. -/
inductive CellOkR : Cs → D → Prop where
  | int {k : IntKind} {n : Int} (h0 : k.min ≤ n) (h1 : n ≤ k.max) : CellOkR (.int k) (.v (.int k n))
  | bool (b : Bool) : CellOkR .bool (.v (.bool b))
  | float {b : Nat} (h : (Lit.float .f64 b).wf = true) : CellOkR .float (.v (.float .f64 b))
  | str {s : ByteArray} (h : s.size ≤ 140737488351232) : CellOkR .str (.v (.string s))
  | slice {es : List Cs} {xs : List (List D)} (hl : xs.length ≤ 140737488351232) (hx : ∀ (i : Nat) (x : List D), xs[i]? = some x → x.length = es.length) (hj : ∀ (i j : Nat) (x : List D) (s : Cs) (d : D), xs[i]? = some x → es[j]? = some s → x[j]? = some d → CellOkR s d) : CellOkR (.slice es) (.row xs es.length 0)

def CellsOkR (ss : List Cs) (ds : List D) : Prop := ds.length = ss.length ∧ ∀ (j : Nat) (s : Cs) (d : D), ss[j]? = some s → ds[j]? = some d → CellOkR s d
theorem CellsOkR.cons {s : Cs} {ss : List Cs} {x : List D} (h : CellsOkR (s :: ss) x) : ∃ d ds, x = d :: ds ∧ CellOkR s d ∧ CellsOkR ss ds := by
  obtain ⟨hl, hc⟩ := h
  cases x with
  | nil => simp at hl
  | cons d ds => exact ⟨d, ds, rfl, hc 0 s d rfl rfl, ⟨by simpa using hl, fun j s' d' h1 h2 => hc (j + 1) s' d' (by simpa using h1) (by simpa using h2)⟩⟩
theorem CellsOkR.nil {x : List D} (h : CellsOkR [] x) : x = [] := List.length_eq_zero_iff.1 h.1
end Go.Proofs.Zm
/- The framework's forty-ninth part: rows whose parts are told less sharply. -/
namespace Go.Proofs.Zm
open Go.RowKit
inductive DLess : List (List D) → List (List D) → Prop where
  | nil : DLess [] []
  | cons {d e : List D} {ds es : List (List D)} (h : DLes d e) (hs : DLess ds es) : DLess (d :: ds) (e :: es)
theorem DLess.get {ds es : List (List D)} (h : DLess ds es) : ∀ (i : Nat) (x y : List D), ds[i]? = some x → es[i]? = some y → DLes x y := by
  induction h with
  | nil => intro i x y h; simp at h
  | cons h _ ih =>
    intro i x y hx hy
    cases i with
    | zero => simp at hx hy; subst hx; subst hy; exact h
    | succ i => exact ih i x y (by simpa using hx) (by simpa using hy)
theorem DLes.at {G : Gh} {ds es : List D} (h : DLes ds es) : AtLes G ds es := by
  induction h with
  | nil => exact .nil
  | cons h _ ih => exact .cons (fun u hu => h G u hu) ih
end Go.Proofs.Zm
/- The framework's fifty-first part: regions that draw their order, all of whose operations may come up at any time: each is told once. -/
namespace Go.Proofs.Zm
open Go.RowKit
set_option linter.unusedVariables false
set_option linter.unusedSimpArgs false
/-- What an operation may read: what those have made for which it waits, and what stood ahead. -/
def pickE (k : Nat) (done : List (Nat × D)) (b : Env) : List Edge → Env
  | [] => b
  | e :: es => if Region.binds .any e = true then (match done[k - 1 - e.on]? with | some p => p :: pickE k done b es | none => pickE k done b es) else pickE k done b es
/-- Each operation in the text's order, told out of what it waits for. -/
inductive FlatR (P : Program) (w0 : World) (n : Nat) (ops : Array Oper) (b : Env) : Nat → List (Nat × D) → List Oper → List (Nat × D) → Prop where
  | nil {k : Nat} {done : List (Nat × D)} : FlatR P w0 n ops b k done [] done
  | cons {k t : Nat} {done fin : List (Nat × D)} {o : Oper} {rest : List Oper} {d : D} (hd : o.dst = some t) (ht : Nat.ble (t + 1) n = true) (hz : (o.after.toList.all fun e => !Region.binds .any e || Nat.blt e.on k) = true)
      (hg : guardIs ops (pickE k done b o.after.toList) o true) (hok : ∀ (st : St) (K : Env → St → Prop), K ((t, d) :: pickE k done b o.after.toList) st → ZOp P w0 n o (pickE k done b o.after.toList) st K)
      (h : FlatR P w0 n ops b (k + 1) ((t, d) :: done) rest fin) : FlatR P w0 n ops b k done (o :: rest) fin
section
variable {P : Program} {w0 : World} {n : Nat} {ops : Array Oper} {b : Env}
theorem rev_at {new done : List (Nat × D)} {k j : Nat} (hk : done.length = k) (hj : j < k) : done[k - 1 - j]? = (new ++ done).reverse[j]? := by
  rw [List.reverse_append, List.getElem?_append_left (by simp; omega), List.getElem?_reverse (by omega), hk]
/-- Slots that are told once. -/
def onceB : List Nat → Bool
  | [] => true
  | x :: xs => xs.all (fun y => !Nat.beq x y) && onceB xs
theorem once_of : ∀ {l : List Nat}, onceB l = true → ∀ (i j x : Nat), l[i]? = some x → l[j]? = some x → i = j
  | [], _, i, j, x, h, _ => by simp at h
  | y :: ys, h, i, j, x, hi, hj => by
    simp only [onceB, Bool.and_eq_true, List.all_eq_true, Bool.not_eq_true'] at h
    have hne : ∀ z ∈ ys, z ≠ y := fun z hz e => by have := h.1 z hz; rw [e] at this; simp at this
    cases i with
    | zero =>
      cases j with
      | zero => rfl
      | succ j =>
        simp only [List.getElem?_cons_zero, Option.some.injEq, List.getElem?_cons_succ] at hi hj
        exact absurd hi.symm (hne x (List.mem_of_getElem? hj))
    | succ i =>
      cases j with
      | zero =>
        simp only [List.getElem?_cons_zero, Option.some.injEq, List.getElem?_cons_succ] at hi hj
        exact absurd hj.symm (hne x (List.mem_of_getElem? hi))
      | succ j => rw [once_of h.2 i j x (by simpa using hi) (by simpa using hj)]
structure FInv (G : Gh) (n : Nat) (b : Env) (fin : List (Nat × D)) (L : Array Bool) (tmps : Array Value) : Prop where
  size : tmps.size = n
  made : ∀ j s d, L.getD j false = true → fin.reverse[j]? = some (s, d) → ∃ u, tmps[s]? = some u ∧ VR G d u
  base : ∀ s d, zlook b s = some d → ∃ u, tmps[s]? = some u ∧ VR G d u
def ZFlat (P : Program) (w0 : World) (n : Nat) (ops : Array Oper) (b : Env) (k : Nat) (done : List (Nat × D)) (l : List Oper) (C : List (Nat × D) → Prop) : Prop := ∃ fin, FlatR P w0 n ops b k done l fin ∧ C fin
end
end Go.Proofs.Zm
/- The framework's fifty-third part: regions that draw their order with []byte("..") in them: a literal that nobody else holds, and what marks it. -/
namespace Go.Proofs.Zm
open Go.RowKit
set_option linter.unusedVariables false
set_option linter.unusedSimpArgs false
section
variable {P : Program} {w0 : World} {n : Nat} {ops : Array Oper} {b : Env}
/-- No right stands to this number's block, and it is nobody's own. -/
structure Lone (w0 : World) (G : Gh) (st : St) (t : Nat) : Prop where
  nx : t < G.nx
  new : w0.heap.size ≤ (G.tau t).1
  tk : ∀ q, st.T q = true → (G.tau q).2.2 ≠ 0 → (G.tau q).1 ≠ (G.tau t).1
/-- A row out of such a block. -/
def Strong (w0 : World) (G : Gh) (st : St) (u : Value) (d : D) : Prop := ∃ xs k t, d = .row xs k 0 ∧ xs ≠ [] ∧ 0 < k ∧ t ≠ 0 ∧ VR G (.row xs k t) u ∧ Lone w0 G st t
/-- What an operation comes to at any time; tk: the slots of such rows. -/
def FOk (P : Program) (w0 : World) (n : Nat) (o : Oper) (tk : List Nat) (t : Nat) (d : D) (e : Env) : Prop :=
  ∀ G w (a : Act) st, Rel w0 G st w → ER G n e a.tmps → (∀ s dd u, tk.contains s = true → zlook e s = some dd → a.tmps[s]? = some u → Strong w0 G st u dd) → a.defers = [] →
    ∀ (next : Act → World → Prop) (Q : Exit → Act → World → Prop),
      (∀ G' a' w', G.le G' → Rel w0 G' st w' → ER G' n ((t, d) :: e) a'.tmps → a'.defers = [] → (tk.contains t = true → ∀ u, a'.tmps[t]? = some u → Strong w0 G' st u d) → (∀ s u, o.dst ≠ some s → a.tmps[s]? = some u → a'.tmps[s]? = some u) → next a' w') → o.wp P a w next Q
end
/-- Each operation in the text's order, told out of what it waits for. -/
inductive FlatT (P : Program) (w0 : World) (n : Nat) (ops : Array Oper) (b : Env) (tk : List Nat) : Nat → List (Nat × D) → List Oper → List (Nat × D) → Prop where
  | nil {k : Nat} {done : List (Nat × D)} : FlatT P w0 n ops b tk k done [] done
  | cons {k t : Nat} {done fin : List (Nat × D)} {o : Oper} {rest : List Oper} {d : D} (hd : o.dst = some t) (ht : Nat.ble (t + 1) n = true) (hz : (o.after.toList.all fun e => !Region.binds .any e || Nat.blt e.on k) = true)
      (hg : guardIs ops (pickE k done b o.after.toList) o true) (hok : FOk P w0 n o tk t d (pickE k done b o.after.toList))
      (h : FlatT P w0 n ops b tk (k + 1) ((t, d) :: done) rest fin) : FlatT P w0 n ops b tk k done (o :: rest) fin
section
variable {P : Program} {w0 : World} {n : Nat} {ops : Array Oper} {b : Env} {tk : List Nat}
structure FInvT (w0 : World) (st : St) (tk : List Nat) (G : Gh) (n : Nat) (b : Env) (fin : List (Nat × D)) (L : Array Bool) (tmps : Array Value) : Prop where
  size : tmps.size = n
  made : ∀ j s d, L.getD j false = true → fin.reverse[j]? = some (s, d) → ∃ u, tmps[s]? = some u ∧ VR G d u ∧ (tk.contains s = true → Strong w0 G st u d)
  base : ∀ s d, zlook b s = some d → ∃ u, tmps[s]? = some u ∧ VR G d u
def ZFlatT (P : Program) (w0 : World) (n : Nat) (ops : Array Oper) (b : Env) (tk : List Nat) (k : Nat) (done : List (Nat × D)) (l : List Oper) (C : List (Nat × D) → Prop) : Prop := ∃ fin, FlatT P w0 n ops b tk k done l fin ∧ C fin
end
end Go.Proofs.Zm
/- The framework's fifty-fourth part: regions that draw their order, with variables of their own in them that are told once. -/
namespace Go.Proofs.Zm
open Go.RowKit
set_option linter.unusedVariables false
set_option linter.unusedSimpArgs false
/-- A variable: its slot, the numbers of the operations that make it and that fill it, what stands in it at first, then. -/
structure Box where
  slot : Nat
  al : Nat
  sto : Nat
  z : List D
  d : List D
def pickU (k : Nat) (done : List (Option (Nat × D))) (b : Env) : List Edge → Env
  | [] => b
  | e :: es => if Region.binds .any e = true then (match done[k - 1 - e.on]? with | some (some p) => p :: pickU k done b es | _ => pickU k done b es) else pickU k done b es
/-- No variable but this one is made or filled by this operation. -/
def boxB (bx : List Box) (k j : Nat) : Bool := (List.range bx.length).all fun i => Nat.beq i j || (match bx[i]? with | some B => !Nat.beq B.al k && !Nat.beq B.sto k | none => true)
/-- This operation is none of the chain of those that make, and add to, one row. -/
def chB (ch : List (Nat × Nat)) (k : Nat) : Bool := ch.all fun p => !Nat.beq p.1 k
inductive FlatU (P : Program) (w0 : World) (n : Nat) (ops : Array Oper) (b : Env) (tk : List Nat) (ch : List (Nat × Nat)) (bx : List Box) : Nat → List (Option (Nat × D)) → List Oper → List (Option (Nat × D)) → Prop where
  | nil {k : Nat} {done : List (Option (Nat × D))} : FlatU P w0 n ops b tk ch bx k done [] done
  | cons {k t : Nat} {done fin : List (Option (Nat × D))} {o : Oper} {rest : List Oper} {d : D} (hd : o.dst = some t) (ht : Nat.ble (t + 1) n = true) (hz : (o.after.toList.all fun e => !Region.binds .any e || Nat.blt e.on k) = true)
      (hn : boxB bx k bx.length = true) (hch : chB ch k = true) (hg : guardIs ops (pickU k done b o.after.toList) o true) (hok : FOk P w0 n o tk t d (pickU k done b o.after.toList))
      (h : FlatU P w0 n ops b tk ch bx (k + 1) (some (t, d) :: done) rest fin) : FlatU P w0 n ops b tk ch bx k done (o :: rest) fin
  | alloc {k j ty kk by_ : Nat} {B : Box} {done fin : List (Option (Nat × D))} {o : Oper} {rest : List Oper} (hop : o.op = .alloc ty) (hd : o.dst = some B.slot) (ht : Nat.ble (B.slot + 1) n = true) (hz : (o.after.toList.all fun e => !Region.binds .any e || Nat.blt e.on k) = true)
      (hj : bx[j]? = some B) (hal : B.al = k) (hs : B.sto ≠ k) (hn : boxB bx k j = true) (hch : chB ch k = true) (hg : o.guard = none) (he : ElemOk P ty kk by_ B.z) (hz1 : ∀ d ∈ B.z, oneD d = true)
      (h : FlatU P w0 n ops b tk ch bx (k + 1) (none :: done) rest fin) : FlatU P w0 n ops b tk ch bx k done (o :: rest) fin
  | store {k j ty kk : Nat} {ag : Bool} {B : Box} {done fin : List (Option (Nat × D))} {o : Oper} {rest : List Oper} {y : Operand} {d : D} (hop : o.op = .store ty (.tmp B.slot) y) (hd : o.dst = none) (hz : (o.after.toList.all fun e => !Region.binds .any e || Nat.blt e.on k) = true)
      (hj : bx[j]? = some B) (hal : B.al ≠ k) (hs : B.sto = k) (hn : boxB bx k j = true) (hch : chB ch k = true) (hg : o.guard = none) (hdep : (o.after.toList.any fun e => Region.binds .any e && Nat.beq e.on B.al) = true)
      (hy : ev (pickU k done b o.after.toList) y = some d) (hsh : shapeIs P ty ag kk) (hk : (cellsD d).length = kk) (h1 : ∀ c ∈ cellsD d, oneD c = true) (hl : B.z.length = kk) (hc : cellsD d = B.d)
      (h : FlatU P w0 n ops b tk ch bx (k + 1) (none :: done) rest fin) : FlatU P w0 n ops b tk ch bx k done (o :: rest) fin
  | chain0 {k t kk : Nat} {xs : List (List D)} {done fin : List (Option (Nat × D))} {o : Oper} {rest : List Oper} (h0 : ch[0]? = some (k, t)) (htk : tk = []) (hd : o.dst = some t) (ht : Nat.ble (t + 1) n = true) (hz : (o.after.toList.all fun e => !Region.binds .any e || Nat.blt e.on k) = true)
      (hn : boxB bx k bx.length = true) (hg : o.guard = none) (hok : ∀ (st : St) (K : Env → St → Prop), (∀ t', st.T t' = false → t' ≠ 0 → K ((t, .row xs kk t') :: pickU k done b o.after.toList) (st.setT t' true)) → ZOp P w0 n o (pickU k done b o.after.toList) st K)
      (h : FlatU P w0 n ops b tk ch bx (k + 1) (some (t, .row xs kk 0) :: done) rest fin) : FlatU P w0 n ops b tk ch bx k done (o :: rest) fin
  | chainS {i k t kk k0 s0 kk0 : Nat} {xs xs0 : List (List D)} {done fin : List (Option (Nat × D))} {o : Oper} {rest : List Oper} (h0 : ch[i]? = some (k0, s0)) (h1 : ch[i + 1]? = some (k, t)) (htk : tk = []) (hd : o.dst = some t) (ht : Nat.ble (t + 1) n = true) (hz : (o.after.toList.all fun e => !Region.binds .any e || Nat.blt e.on k) = true)
      (hn : boxB bx k bx.length = true) (hg : o.guard = none) (hdep : (o.after.toList.any fun e => Region.binds .any e && Nat.beq e.on k0) = true) (hz0 : zlook (pickU k done b o.after.toList) s0 = some (.row xs0 kk0 0)) (hb0 : zlook b s0 = none)
      (hok : ∀ (st : St) (t0 : Nat) (K : Env → St → Prop), st.T t0 = true → (∀ t', st.T t' = false → t' ≠ 0 → K ((t, .row xs kk t') :: (s0, .row xs0 kk0 t0) :: pickU k done b o.after.toList) ((st.setT t0 false).setT t' true)) → ZOp P w0 n o ((s0, .row xs0 kk0 t0) :: pickU k done b o.after.toList) st K)
      (h : FlatU P w0 n ops b tk ch bx (k + 1) (some (t, .row xs kk 0) :: done) rest fin) : FlatU P w0 n ops b tk ch bx k done (o :: rest) fin
section
variable {P : Program} {w0 : World} {n : Nat} {ops : Array Oper} {b : Env} {tk : List Nat} {ch : List (Nat × Nat)} {bx : List Box}
theorem rev_at' {α : Type} {new done : List α} {k j : Nat} (hk : done.length = k) (hj : j < k) : done[k - 1 - j]? = (new ++ done).reverse[j]? := by
  rw [List.reverse_append, List.getElem?_append_left (by simp; omega), List.getElem?_reverse (by omega), hk]
/-- What is known of an operation. -/
inductive UAt (P : Program) (w0 : World) (n : Nat) (ops : Array Oper) (b : Env) (tk : List Nat) (ch : List (Nat × Nat)) (bx : List Box) (fin : List (Option (Nat × D))) (k : Nat) (o : Oper) : Prop where
  | cons (t : Nat) (d : D) (env : Env) (h1 : fin.reverse[k]? = some (some (t, d))) (hd : o.dst = some t) (ht : t < n) (hn : boxB bx k bx.length = true) (hch : chB ch k = true) (hg : guardIs ops env o true) (hok : FOk P w0 n o tk t d env)
      (he : ∀ s d', zlook env s = some d' → (∃ e ∈ o.after, Region.binds .any e = true ∧ fin.reverse[e.on]? = some (some (s, d'))) ∨ zlook b s = some d') : UAt P w0 n ops b tk ch bx fin k o
  | alloc (j ty kk by_ : Nat) (B : Box) (h1 : fin.reverse[k]? = some none) (hop : o.op = .alloc ty) (hd : o.dst = some B.slot) (ht : B.slot < n) (hj : bx[j]? = some B) (hal : B.al = k) (hs : B.sto ≠ k) (hn : boxB bx k j = true) (hch : chB ch k = true) (hg : o.guard = none) (he : ElemOk P ty kk by_ B.z) (hz1 : ∀ d ∈ B.z, oneD d = true) : UAt P w0 n ops b tk ch bx fin k o
  | store (j ty kk : Nat) (ag : Bool) (B : Box) (env : Env) (y : Operand) (d : D) (h1 : fin.reverse[k]? = some none) (hop : o.op = .store ty (.tmp B.slot) y) (hd : o.dst = none) (hj : bx[j]? = some B) (hal : B.al ≠ k) (hs : B.sto = k) (hn : boxB bx k j = true) (hch : chB ch k = true) (hg : o.guard = none)
      (hdep : ∃ e ∈ o.after, Region.binds .any e = true ∧ e.on = B.al) (hy : ev env y = some d) (hsh : shapeIs P ty ag kk) (hk : (cellsD d).length = kk) (h2 : ∀ c ∈ cellsD d, oneD c = true) (hl : B.z.length = kk) (hc : cellsD d = B.d)
      (he : ∀ s d', zlook env s = some d' → (∃ e ∈ o.after, Region.binds .any e = true ∧ fin.reverse[e.on]? = some (some (s, d'))) ∨ zlook b s = some d') : UAt P w0 n ops b tk ch bx fin k o
  | chain0 (t kk : Nat) (xs : List (List D)) (env : Env) (h1 : fin.reverse[k]? = some (some (t, .row xs kk 0))) (h0 : ch[0]? = some (k, t)) (htk : tk = []) (hd : o.dst = some t) (ht : t < n) (hn : boxB bx k bx.length = true) (hg : o.guard = none)
      (hok : ∀ (st : St) (K : Env → St → Prop), (∀ t', st.T t' = false → t' ≠ 0 → K ((t, .row xs kk t') :: env) (st.setT t' true)) → ZOp P w0 n o env st K)
      (he : ∀ s d', zlook env s = some d' → (∃ e ∈ o.after, Region.binds .any e = true ∧ fin.reverse[e.on]? = some (some (s, d'))) ∨ zlook b s = some d') : UAt P w0 n ops b tk ch bx fin k o
  | chainS (i t kk k0 s0 kk0 : Nat) (xs xs0 : List (List D)) (env : Env) (h1 : fin.reverse[k]? = some (some (t, .row xs kk 0))) (h0 : ch[i]? = some (k0, s0)) (h2 : ch[i + 1]? = some (k, t)) (htk : tk = []) (hd : o.dst = some t) (ht : t < n) (hn : boxB bx k bx.length = true) (hg : o.guard = none)
      (hdep : ∃ e ∈ o.after, Region.binds .any e = true ∧ e.on = k0) (hz0 : zlook env s0 = some (.row xs0 kk0 0)) (hb0 : zlook b s0 = none)
      (hok : ∀ (st : St) (t0 : Nat) (K : Env → St → Prop), st.T t0 = true → (∀ t', st.T t' = false → t' ≠ 0 → K ((t, .row xs kk t') :: (s0, .row xs0 kk0 t0) :: env) ((st.setT t0 false).setT t' true)) → ZOp P w0 n o ((s0, .row xs0 kk0 t0) :: env) st K)
      (he : ∀ s d', zlook env s = some d' → (∃ e ∈ o.after, Region.binds .any e = true ∧ fin.reverse[e.on]? = some (some (s, d'))) ∨ zlook b s = some d') : UAt P w0 n ops b tk ch bx fin k o
/-- A variable's block, as far as it has come. -/
def boxAt (L : Array Bool) (ids : Nat → Nat) (j : Nat) (B : Box) : Option Nat × List D := if L.getD B.al false = true then (some (ids j), if L.getD B.sto false = true then B.d else B.z) else (none, [])
def boxesAt (bx : List Box) (L : Array Bool) (ids : Nat → Nat) : List (Option Nat × List D) := (List.range bx.length).map fun j => match bx[j]? with | some B => boxAt L ids j B | none => (none, [])
theorem boxes_get {L : Array Bool} {ids : Nat → Nat} {j : Nat} {B : Box} (h : bx[j]? = some B) : (boxesAt bx L ids)[j]? = some (boxAt L ids j B) := by
  obtain ⟨hj, _⟩ := List.getElem?_eq_some_iff.1 h
  unfold boxesAt
  rw [List.getElem?_map, List.getElem?_range hj]
  simp [h]
theorem boxB_of {k j i : Nat} {B : Box} (h : boxB bx k j = true) (hi : bx[i]? = some B) (hij : i ≠ j) : B.al ≠ k ∧ B.sto ≠ k := by
  obtain ⟨hl, _⟩ := List.getElem?_eq_some_iff.1 hi
  have := List.all_eq_true.1 h i (by simpa using hl)
  simp only [hi, Bool.or_eq_true, Bool.and_eq_true, Bool.not_eq_true'] at this
  rcases this with h | h
  · exact absurd (Nat.eq_of_beq_eq_true h) hij
  · exact ⟨Nat.ne_of_beq_eq_false h.1, Nat.ne_of_beq_eq_false h.2⟩
theorem boxes_same {L : Array Bool} {ids : Nat → Nat} {k : Nat} (h : boxB bx k bx.length = true) : boxesAt bx (L.setIfInBounds k true) ids = boxesAt bx L ids := by
  unfold boxesAt
  refine List.map_congr_left fun i hi => ?_
  simp only [List.mem_range] at hi
  rw [List.getElem?_eq_getElem hi]
  obtain ⟨h1, h2⟩ := boxB_of h (List.getElem?_eq_getElem hi) (by omega)
  simp only [boxAt, getD_setF (Ne.symm h1), getD_setF (Ne.symm h2)]
theorem boxes_set {L : Array Bool} {ids ids' : Nat → Nat} {k j : Nat} {B : Box} {p : Option Nat × List D} (hj : bx[j]? = some B) (h : boxB bx k j = true) (hids : ∀ i, i ≠ j → ids' i = ids i) (hp : boxAt (L.setIfInBounds k true) ids' j B = p) :
    boxesAt bx (L.setIfInBounds k true) ids' = (boxesAt bx L ids).set j p := by
  obtain ⟨hl, hB⟩ := List.getElem?_eq_some_iff.1 hj
  refine List.ext_getElem? fun i => ?_
  by_cases hij : i = j
  · subst hij
    rw [boxes_get hj, hp, List.getElem?_set_self (by simp [boxesAt, hl])]
  · rw [List.getElem?_set_ne (Ne.symm hij)]
    cases hbi : bx[i]? with
    | none =>
      have h1 : bx.length ≤ i := List.getElem?_eq_none_iff.1 hbi
      rw [List.getElem?_eq_none (by simp [boxesAt, h1]), List.getElem?_eq_none (by simp [boxesAt, h1])]
    | some B' =>
      obtain ⟨h1, h2⟩ := boxB_of h hbi hij
      rw [boxes_get hbi, boxes_get hbi]
      simp only [boxAt, getD_setF (Ne.symm h1), getD_setF (Ne.symm h2), hids i hij]
structure FInvU (w0 : World) (st cur : St) (tk : List Nat) (ch : List (Nat × Nat)) (bx : List Box) (ids : Nat → Nat) (G : Gh) (n : Nat) (b : Env) (fin : List (Option (Nat × D))) (L : Array Bool) (tmps : Array Value) : Prop where
  size : tmps.size = n
  made : ∀ j s d, L.getD j false = true → fin.reverse[j]? = some (some (s, d)) → ∃ u, tmps[s]? = some u ∧ VR G d u ∧ (tk.contains s = true → Strong w0 G cur u d)
  base : ∀ s d, zlook b s = some d → ∃ u, tmps[s]? = some u ∧ VR G d u
  sep : Sep st cur (boxesAt bx L ids)
  ord : ∀ (j : Nat) B, bx[j]? = some B → L.getD B.sto false = true → L.getD B.al false = true
  chn : ∀ (i c s : Nat), ch[i]? = some (c, s) → L.getD c false = true → (∀ c' s', ch[i + 1]? = some (c', s') → L.getD c' false = false) → ∃ xs kk t u, fin.reverse[c]? = some (some (s, .row xs kk 0)) ∧ tmps[s]? = some u ∧ VR G (.row xs kk t) u ∧ t ≠ 0 ∧ cur.T t = true ∧ st.T t = false
  cord : ∀ (i c s c' s' : Nat), ch[i]? = some (c, s) → ch[i + 1]? = some (c', s') → L.getD c' false = true → L.getD c false = true
  box : ∀ (j : Nat) B, bx[j]? = some B → L.getD B.al false = true → ∃ u, tmps[B.slot]? = some u ∧ VR G (.ptr (ids j) 0) u
theorem chB_of {k i c s : Nat} (h : chB ch k = true) (hi : ch[i]? = some (c, s)) : c ≠ k := by
  have := List.all_eq_true.1 h _ (List.mem_of_getElem? hi)
  rw [Bool.not_eq_true'] at this
  exact Nat.ne_of_beq_eq_false this
def ZFlatU (P : Program) (w0 : World) (n : Nat) (ops : Array Oper) (b : Env) (tk : List Nat) (ch : List (Nat × Nat)) (bx : List Box) (k : Nat) (done : List (Option (Nat × D))) (l : List Oper) (C : List (Option (Nat × D)) → Prop) : Prop := ∃ fin, FlatU P w0 n ops b tk ch bx k done l fin ∧ C fin
def endB (m : Nat) (ids : Nat → Nat) : Nat → List Box → List (Option Nat × List D)
  | _, [] => []
  | j, B :: r => (some (ids j), if Nat.blt B.sto m = true then B.d else B.z) :: endB m ids (j + 1) r
def endE (ids : Nat → Nat) : Nat → List Box → Env
  | _, [] => []
  | j, B :: r => (B.slot, .ptr (ids j) 0) :: endE ids (j + 1) r
theorem endB_get (m : Nat) (ids : Nat → Nat) : ∀ (r : List Box) (j i : Nat), (endB m ids j r)[i]? = r[i]?.map fun B => (some (ids (j + i)), if Nat.blt B.sto m = true then B.d else B.z)
  | [], j, i => by simp [endB]
  | B :: r, j, 0 => by simp [endB]
  | B :: r, j, i + 1 => by
    unfold endB
    rw [List.getElem?_cons_succ, endB_get m ids r (j + 1) i, List.getElem?_cons_succ, show j + 1 + i = j + (i + 1) by omega]
theorem endE_eq (ids : Nat → Nat) : ∀ (r : List Box) (j : Nat), endE ids j r = (List.range r.length).filterMap fun i => r[i]?.map fun B => (B.slot, D.ptr (ids (j + i)) 0)
  | [], j => rfl
  | B :: r, j => by
    unfold endE
    rw [List.length_cons, List.range_succ_eq_map, List.filterMap_cons]
    simp only [List.getElem?_cons_zero, Option.map_some, Nat.add_zero, List.filterMap_map]
    rw [endE_eq ids r (j + 1)]
    rw [show (fun i => r[i]?.map fun B => (B.slot, D.ptr (ids (j + 1 + i)) 0)) = ((fun i => Option.map (fun B => (B.slot, D.ptr (ids (j + i)) 0)) (B :: r)[i]?) ∘ Nat.succ) from funext fun i => by
      simp only [Function.comp, Nat.succ_eq_add_one, List.getElem?_cons_succ, show j + 1 + i = j + (i + 1) by omega]]
theorem endB_eq {m : Nat} {ids : Nat → Nat} (h : ∀ B ∈ bx, B.al < m) : boxesAt bx (Array.replicate m true) ids = endB m ids 0 bx := by
  refine List.ext_getElem? fun i => ?_
  rw [endB_get]
  cases hb : bx[i]? with
  | none =>
    have h1 : bx.length ≤ i := List.getElem?_eq_none_iff.1 hb
    rw [List.getElem?_eq_none (by simp [boxesAt, h1])]; rfl
  | some B =>
    rw [boxes_get hb]
    have h1 : (Array.replicate m true).getD B.al false = true := by
      rw [Array.getD_eq_getD_getElem?, Array.getElem?_replicate, if_pos (h B (List.mem_of_getElem? hb))]; rfl
    have h2 : (Array.replicate m true).getD B.sto false = Nat.blt B.sto m := by
      rw [Array.getD_eq_getD_getElem?, Array.getElem?_replicate]
      by_cases h3 : B.sto < m
      · rw [if_pos h3, show Nat.blt B.sto m = true by rw [Nat.blt_eq]; exact h3]; rfl
      · rw [if_neg h3]
        cases h4 : Nat.blt B.sto m with
        | false => rfl
        | true => rw [Nat.blt_eq] at h4; exact absurd h4 h3
    unfold boxAt
    rw [h1, h2, Nat.zero_add]
    simp
end
end Go.Proofs.Zm
/- The framework's fifty-fifth part: floats that are compared and multiplied, whatever comes of it. -/
namespace Go.Proofs.Zm
open Go.RowKit Go.Proofs
set_option linter.unusedVariables false
set_option linter.unusedSimpArgs false
section
variable {P : Program} {w0 : World} {n : Nat} {env : Env} {st : St} {x y : Operand} {o : Oper}
end
end Go.Proofs.Zm
/- The framework's fifty-sixth part: arrays: their values built of parts, a place in one. -/
namespace Go.Proofs.Zm
open Go.RowKit Go.Proofs
set_option linter.unusedVariables false
set_option linter.unusedSimpArgs false

section
variable {P : Program} {w0 : World} {n : Nat} {o : Oper} {env : Env} {st : St}
theorem zp_idxA {t e len : TypeId} {i : TypeInfo} {x y : Operand} {cs : List D} {k : Nat} {ik : IntKind} {j : Int} (hop : o.op = .indexAddr t x y) (ht : P.underlying t = some (.array len e)) (hi : P.info? e = some i) (hk : i.size = k)
    (hx : ev env x = some (.ref cs)) (hy : ev env y = some (.v (.int ik j))) (h0 : 0 ≤ j) (h1 : j < len) : ZPure0 P o env (.ref (cs.drop (j.toNat * k))) := fun G n a her => by
  have hv := ev_ok her hx
  have ey := (ev_ok her hy).eq_v
  generalize hu : a.eval x = u at hv
  cases hv with
  | ref _ b u hm hvv =>
    refine ⟨.pointer (some (b.add (j.toNat * k))), .ref _ _ (fun q => u (j.toNat * k + q)) (fun q hq => ?_) (fun q d hq => ?_), fun w => ?_⟩
    · rw [Addr.add_add]; exact hm _ (by simp at hq; omega)
    · rw [List.getElem?_drop] at hq; exact hvv _ _ hq
    · have hlt : 0 ≤ j ∧ j < (len : Int) := ⟨h0, by omega⟩
      simp [execOp, hop, hu, ey, Instr.indexAt, Instr.sureAddr, asIntOf, run_underlying ht, hlt, sizeOf, typeInfo, hi, hk]
end
end Go.Proofs.Zm
/- The framework's fifty-ninth part: maps with keys of an integer kind: made, asked, written, taken from, counted. -/
namespace Go.Proofs.Zm
open Go.RowKit Go.MapKept
set_option linter.unusedVariables false
set_option linter.unusedSimpArgs false

/-- A map with keys of an integer kind: what it holds, in its own order. -/
def mapI (kk : IntKind) (l : List (Int × D)) : List (Value × D) := l.map fun p => (.int kk p.1, p.2)
def lkI : List (Int × D) → Int → Option D
  | [], _ => none
  | (a, d) :: r, k => if a = k then some d else lkI r k
def setI : List (Int × D) → Int → D → List (Int × D)
  | [], k, x => [(k, x)]
  | (a, d) :: r, k, x => if a = k then (a, x) :: r else (a, d) :: setI r k x
def delI : List (Int × D) → Int → List (Int × D)
  | [], _ => []
  | (a, d) :: r, k => if a = k then r else (a, d) :: delI r k
theorem lkI_at : ∀ {l : List (Int × D)}, l.Pairwise (fun p q => p.1 ≠ q.1) → ∀ {j : Nat} {k : Int} {d : D}, l[j]? = some (k, d) → lkI l k = some d ∧ (∀ x, setI l k x = l.set j (k, x)) ∧ delI l k = l.eraseIdx j
  | [], _, j, k, d, h => by simp at h
  | (a, b) :: r, hn, 0, k, d, h => by
    simp only [List.getElem?_cons_zero, Option.some.injEq, Prod.mk.injEq] at h
    obtain ⟨rfl, rfl⟩ := h
    simp [lkI, setI, delI]
  | (a, b) :: r, hn, j + 1, k, d, h => by
    simp only [List.getElem?_cons_succ] at h
    have hne : a ≠ k := (List.pairwise_cons.1 hn).1 (k, d) (List.mem_of_getElem? h)
    obtain ⟨h1, h2, h3⟩ := lkI_at (List.pairwise_cons.1 hn).2 h
    simp [lkI, setI, delI, hne, h1, h2, h3]
theorem lkI_no : ∀ {l : List (Int × D)} {k : Int}, (∀ p ∈ l, p.1 ≠ k) → lkI l k = none ∧ (∀ x, setI l k x = l ++ [(k, x)]) ∧ delI l k = l
  | [], k, _ => by simp [lkI, setI, delI]
  | (a, b) :: r, k, h => by
    have hne : a ≠ k := h (a, b) (.head _)
    obtain ⟨h1, h2, h3⟩ := lkI_no (l := r) fun p hp => h p (.tail _ hp)
    simp [lkI, setI, delI, hne, h1, h2, h3]

section
variable {w0 : World} {G : Gh} {s : St} {w : World} {kk : IntKind} {l : List (Int × D)} {es : Array MapEntry} {cl : Nat}
theorem MEnts.at_ (h : MEnts G (mapI kk l) es.toList) {j : Nat} {e : MapEntry} (he : es.toList[j]? = some e) : ∃ k d, l[j]? = some (k, d) ∧ e.key = .int kk k ∧ VR G d e.val := by
  have hl := h.1
  unfold mapI at hl
  rw [List.length_map] at hl
  have hj : j < l.length := by rw [hl]; exact (List.getElem?_eq_some_iff.1 he).1
  obtain ⟨h1, h2⟩ := h.2 j (.int kk l[j].1) l[j].2 e (by simp [mapI, hj]) he
  exact ⟨l[j].1, l[j].2, List.getElem?_eq_getElem hj, h1, h2⟩
theorem MEnts.to (h : MEnts G (mapI kk l) es.toList) {j : Nat} {k : Int} {d : D} (hj : l[j]? = some (k, d)) : ∃ e, es.toList[j]? = some e ∧ e.key = .int kk k ∧ VR G d e.val := by
  have hl := h.1
  unfold mapI at hl
  rw [List.length_map] at hl
  have hlt : j < es.toList.length := by rw [← hl]; exact (List.getElem?_eq_some_iff.1 hj).1
  obtain ⟨h1, h2⟩ := h.2 j (.int kk k) d es.toList[j] (by simp [mapI, hj]) (List.getElem?_eq_getElem hlt)
  exact ⟨_, List.getElem?_eq_getElem hlt, h1, h2⟩
theorem MEnts.isKey (h : MEnts G (mapI kk l) es.toList) : ∀ x ∈ es.toList, IsKey (.int kk) x.key := fun x hx => by
  obtain ⟨j, hj⟩ := List.mem_iff_getElem?.1 hx
  obtain ⟨k, d, _, h1, _⟩ := h.at_ hj
  rw [h1]; rfl
theorem MEnts.apart (h : MEnts G (mapI kk l) es.toList) (hs : Stamped es cl) : l.Pairwise (fun p q => p.1 ≠ q.1) := by
  have hp := ((stamped_iff es cl).1 hs).2.2
  rw [List.pairwise_iff_getElem] at hp ⊢
  intro i j hi hj hij
  have hl := h.1
  unfold mapI at hl
  rw [List.length_map] at hl
  obtain ⟨e1, q1, q2, _⟩ := h.to (List.getElem?_eq_getElem hi)
  obtain ⟨e2, p1, p2, _⟩ := h.to (List.getElem?_eq_getElem hj)
  have := hp i j (by omega) (by omega) hij
  rw [(List.getElem?_eq_some_iff.1 q1).2, (List.getElem?_eq_some_iff.1 p1).2, q2, p2] at this
  exact fun e => this (congrArg (Value.int kk) e)
/-- A key is found where it stands, or nowhere. -/
theorem MEnts.find (h : MEnts G (mapI kk l) es.toList) (hs : Stamped es cl) (k : Int) :
    (Instr.findNow (.int kk) (.int kk k) es.toList 0 = some none ∧ lkI l k = none ∧ (∀ x, setI l k x = l ++ [(k, x)]) ∧ delI l k = l ∧ ∀ x ∈ es.toList, x.key ≠ .int kk k) ∨
    ∃ j e d, Instr.findNow (.int kk) (.int kk k) es.toList 0 = some (some (j, e.val)) ∧ es[j]? = some e ∧ e.key = .int kk k ∧ VR G d e.val ∧ lkI l k = some d ∧ (∀ x, setI l k x = l.set j (k, x)) ∧ delI l k = l.eraseIdx j := by
  rcases findNow_spec (d := .int kk) (k := .int kk k) rfl es.toList 0 h.isKey with ⟨h1, h2⟩ | ⟨j, e, h1, h2, h3⟩
  · refine .inl ⟨h1, ?_⟩
    have hno : ∀ p ∈ l, p.1 ≠ k := fun p hp => by
      obtain ⟨j, hj⟩ := List.mem_iff_getElem?.1 hp
      obtain ⟨e, q1, q2, _⟩ := h.to hj
      have := h2 e (List.mem_of_getElem? q1)
      rw [q2] at this
      exact fun e => this (by rw [e])
    obtain ⟨a1, a2, a3⟩ := lkI_no hno
    exact ⟨a1, a2, a3, h2⟩
  · obtain ⟨k', d, q1, q2, q3⟩ := h.at_ h2
    rw [h3] at q2
    cases q2
    obtain ⟨a1, a2, a3⟩ := lkI_at (h.apart hs) q1
    exact .inr ⟨j, e, d, by simpa using h1, by simpa using h2, h3, q3, a1, a2, a3⟩
end
section
variable {w0 : World} {G : Gh} {s : St} {w : World}
theorem cell_map {w : World} {b : Nat} {es : Array MapEntry} {cl : Nat} (hb : w.heap[b]? = some (.map es cl)) {a : Addr} (ha : a.block = b) : w.cell? a = none := by
  unfold World.cell?
  rw [ha, hb]
/-- A map holds other things now. -/
theorem Rel.setMap (h : Rel w0 G s w) {id : Nat} {m m' : List (Value × D)} (hN : s.N id = some m) {es es' : Array MapEntry} {cl cl' : Nat} (hb : w.heap[G.rho id]? = some (.map es cl)) (he : MEnts G m' es'.toList) (hs : Stamped es' cl') :
    Rel w0 G (s.setN id (some m')) { w with heap := w.heap.setIfInBounds (G.rho id) (.map es' cl') } := by
  obtain ⟨hnew, hold⟩ := heap_set (o' := Obj.map es' cl') hb
  have hne : ∀ id' cs, s.H id' = some cs → G.rho id' ≠ G.rho id := fun id' cs e1 q => by
    obtain ⟨c, e, h1, _⟩ := h.ex id' cs e1
    rw [q, hb] at h1; cases h1
  have hnt : ∀ t, s.T t = true → (G.tau t).2.2 ≠ 0 → (G.tau t).1 ≠ G.rho id := fun t e1 e2 q => by
    obtain ⟨c, e, h1, _⟩ := h.tk t e1 e2
    rw [q, hb] at h1; cases h1
  exact {
    mem := fun a u hu => by
      have h0 := h.mem a u hu
      have hbk : a.block ≠ G.rho id := fun q => by rw [cell_map hb q] at h0; cases h0
      exact (cell_same (hold _ hbk)).trans h0
    nxH := h.nxH
    nxT := h.nxT
    nx0 := h.nx0
    T0 := h.T0
    ex := fun id' cs e1 => by
      obtain ⟨c, e, h1, h2, h3, h4⟩ := h.ex id' cs e1
      exact ⟨c, e, (hold _ (hne id' cs e1)).trans h1, h2, h3, h4⟩
    exM := h.exM
    exB := h.exB
    exI := h.exI
    tk := fun t e1 e2 => by
      obtain ⟨c, e, h1, h2⟩ := h.tk t e1 e2
      exact ⟨c, e, (hold _ (hnt t e1 e2)).trans h1, h2⟩
    tkM := h.tkM
    tkB := h.tkB
    tkI := h.tkI
    tkE := h.tkE
    mp := {
      nx := fun i hi => by
        have : i ≠ id := by have := h.mp.lt hN; omega
        simp [this]; exact h.mp.nx i hi
      ex := fun i m1 e1 => by
        by_cases hi : i = id
        · subst hi
          simp at e1
          subst e1
          exact ⟨es', cl', hnew, he, hs⟩
        · simp [hi] at e1
          obtain ⟨es1, cl1, q1, q2, q3⟩ := h.mp.ex i m1 e1
          exact ⟨es1, cl1, (hold _ (fun q => hi (h.mp.inj i id m1 m e1 hN q))).trans q1, q2, q3⟩
      base := fun i m1 e1 => by
        by_cases hi : i = id
        · subst hi; exact h.mp.base i m hN
        · simp [hi] at e1; exact h.mp.base i m1 e1
      inj := fun i j m1 m2 e1 e2 q => by
        have f : ∀ i m1, (s.setN id (some m')).N i = some m1 → ∃ m2, s.N i = some m2 := fun i m1 e1 => by
          by_cases hi : i = id
          · subst hi; exact ⟨m, hN⟩
          · simp [hi] at e1; exact ⟨m1, e1⟩
        obtain ⟨m3, e3⟩ := f i m1 e1
        obtain ⟨m4, e4⟩ := f j m2 e2
        exact h.mp.inj i j m3 m4 e3 e4 q
      gl := h.mp.gl }
    below := below_set h.below (h.mp.base id m hN) hold (by simp) rfl rfl rfl }
/-- A new map. -/
theorem Rel.newMap (h : Rel w0 G s w) : ∃ G', G.le G' ∧ Rel w0 G' (s.setN G.nx (some [])) (w.alloc (.map #[] 0)) ∧ G'.nx = G.nx + 1 ∧ G'.rho G.nx = w.heap.size := by
  obtain ⟨hnew, hold⟩ := heap_alloc w (.map #[] 0)
  have hMb : ∀ a u, G.M a = some u → a.block < w.heap.size := fun a u hu => cell_lt (h.mem a u hu)
  let G' : Gh := { M := G.M, rho := fun i => if i = G.nx then w.heap.size else G.rho i, tau := G.tau, nx := G.nx + 1 }
  have hrn : G'.rho G.nx = w.heap.size := by simp [G']
  have hro : ∀ t, t ≠ G.nx → G'.rho t = G.rho t := fun t hne => by simp [G', hne]
  have hle : G.le G' := ⟨fun a u hu => hu, fun id hlt => hro id (Nat.ne_of_lt hlt), fun t hlt => rfl, Nat.le_succ _⟩
  have hxb : ∀ id cs, s.H id = some cs → id ≠ G.nx ∧ G.rho id < w.heap.size := fun id cs e1 => by
    obtain ⟨c', e', h1, _⟩ := h.ex id cs e1
    exact ⟨fun q => by have := h.nxle e1; omega, (Array.getElem?_eq_some_iff.1 h1).1⟩
  have htb : ∀ t, s.T t = true → (G.tau t).2.2 ≠ 0 → (G.tau t).1 < w.heap.size := fun t e1 e2 => by
    obtain ⟨c', e', h1, _⟩ := h.tk t e1 e2
    exact (Array.getElem?_eq_some_iff.1 h1).1
  have hmb : ∀ id m, s.N id = some m → id ≠ G.nx ∧ G.rho id < w.heap.size := fun id m e1 => by
    obtain ⟨es, cl, h1, _⟩ := h.mp.ex id m e1
    exact ⟨fun q => by have := h.mp.lt e1; omega, (Array.getElem?_eq_some_iff.1 h1).1⟩
  refine ⟨G', hle, ?_, rfl, hrn⟩
  exact {
    mem := fun a u hu => by rw [cell_same (hold _ (hMb a u hu))]; exact h.mem a u hu
    nxH := fun id hi => h.nxH id (by simp [G'] at hi; omega)
    nxT := fun t hi => h.nxT t (by simp [G'] at hi; omega)
    nx0 := Nat.succ_pos _
    T0 := h.T0
    ex := fun id cs e1 => by
      obtain ⟨q1, q2⟩ := hxb id cs e1
      obtain ⟨c', e', p1, p2, p3, p4⟩ := h.ex id cs e1
      rw [hro id q1]
      exact ⟨c', e', (hold _ q2).trans p1, p2, p3, fun j d u a b => (p4 j d u a b).mono hle⟩
    exM := fun id cs a u e1 hu => by rw [hro id (hxb id cs e1).1]; exact h.exM id cs a u e1 hu
    exB := fun id cs e1 => by rw [hro id (hxb id cs e1).1]; exact h.exB id cs e1
    exI := fun id id' cs cs' e1 e2 q => by rw [hro id (hxb id cs e1).1, hro id' (hxb id' cs' e2).1] at q; exact h.exI id id' cs cs' e1 e2 q
    tk := fun t e1 e2 => by
      obtain ⟨c, e, h1, h2⟩ := h.tk t e1 e2
      exact ⟨c, e, (hold _ (htb t e1 e2)).trans h1, h2⟩
    tkM := h.tkM
    tkB := h.tkB
    tkI := h.tkI
    tkE := fun t id cs e1 e2 e3 => by rw [hro id (hxb id cs e3).1]; exact h.tkE t id cs e1 e2 e3
    mp := {
      nx := fun i hi => by
        have : i ≠ G.nx := by simp [G'] at hi; omega
        simp [this]; exact h.mp.nx i (by simp [G'] at hi; omega)
      ex := fun i m1 e1 => by
        by_cases hi : i = G.nx
        · subst hi
          simp at e1
          subst e1
          rw [hrn]
          exact ⟨#[], 0, hnew, ⟨rfl, fun j k d e q => by simp at q⟩, stamped_empty 0⟩
        · simp [hi] at e1
          obtain ⟨es1, cl1, q1, q2, q3⟩ := h.mp.ex i m1 e1
          rw [hro i hi]
          exact ⟨es1, cl1, (hold _ (hmb i m1 e1).2).trans q1, q2.mono hle, q3⟩
      base := fun i m1 e1 => by
        by_cases hi : i = G.nx
        · subst hi; rw [hrn]; exact h.below.size
        · simp [hi] at e1; rw [hro i hi]; exact h.mp.base i m1 e1
      inj := fun i j m1 m2 e1 e2 q => by
        by_cases hi : i = G.nx
        · by_cases hj : j = G.nx
          · rw [hi, hj]
          · simp [hj] at e2
            rw [hi, hrn, hro j hj] at q
            have := (hmb j m2 e2).2; omega
        · simp [hi] at e1
          by_cases hj : j = G.nx
          · rw [hj, hrn, hro i hi] at q
            have := (hmb i m1 e1).2; omega
          · simp [hj] at e2
            rw [hro i hi, hro j hj] at q
            exact h.mp.inj i j m1 m2 e1 e2 q
      gl := h.mp.gl }
    below := below_push h.below (x := .map #[] 0) rfl rfl rfl rfl }
end
end Go.Proofs.Zm
/- The framework's sixtieth part: the operations of maps with integer keys. -/
namespace Go.Proofs.Zm
open Go.RowKit Go.MapKept
set_option linter.unusedVariables false
set_option linter.unusedSimpArgs false
variable {P : Program} {w0 : World} {n : Nat} {o : Oper} {env : Env} {st : St}

def FreshN (st : St) (id : Nat) : Prop := st.N id = none ∧ st.H id = none ∧ st.T id = false ∧ id ≠ 0
theorem Rel.freshMap {G : Gh} {w : World} (h : Rel w0 G st w) : FreshN st G.nx := ⟨h.mp.nx _ (Nat.le_refl _), h.nxH _ (Nat.le_refl _), h.nxT _ (Nat.le_refl _), by have := h.nx0; omega⟩
/-- make(map[K]V). -/
theorem zv_makeMap {K : D → St → Prop} {t : TypeId} (hop : o.op = .makeMap t none) (h : ∀ id, FreshN st id → K (.mp id) (st.setN id (some []))) : ZVal P w0 n o env st K := by
  intro G w a hr her
  obtain ⟨G', hle, hr', hnx, hrho⟩ := hr.newMap
  have hrun : (execOp a.eval o).run P w = .ok (.value (.map (some w.heap.size))) (w.alloc (.map #[] 0)) := by
    simp [execOp, hop, Instr.makeMap]
  refine ⟨_, _, G', _, _, hrun, hle, hr', ?_, h G.nx hr.freshMap⟩
  rw [← hrho]
  exact .mp G.nx (by omega)
/-- v, ok := m[k]. -/
theorem zv_lookOk {K : D → St → Prop} {t kt et : TypeId} {kk : IntKind} {x y : Operand} {id : Nat} {l : List (Int × D)} {k : Int} {z : D} {zv : Value} {i : TypeInfo} (hop : o.op = .lookup t x y true) (ht : P.underlying t = some (.map kt et)) (hk : P.underlying kt = some (.int kk))
    (hi : P.info? et = some i) (hz : i.zero = some zv) (hzv : ∀ G : Gh, VR G z zv) (hx : ev env x = some (.mp id)) (hy : ev env y = some (.v (.int kk k))) (hN : st.N id = some (mapI kk l))
    (h1 : ∀ d, lkI l k = some d → K (.tup [d, .v (.bool true)]) st) (h2 : lkI l k = none → K (.tup [z, .v (.bool false)]) st) : ZVal P w0 n o env st K := by
  intro G w a hr her
  have hvx := ev_ok her hx
  have hvy := (ev_ok her hy).eq_v
  generalize hux : a.eval x = ux at hvx
  cases hvx with
  | mp _ hid =>
    obtain ⟨es, cl, hb, he, hs⟩ := hr.mp.ex id _ hN
    have hck := run_checkKey (P := P) (w := w) (k := .int kk k) hk rfl es.isEmpty 9999
    rcases he.find hs k with ⟨q1, q2, _⟩ | ⟨j, e, d, q1, q2, q3, q4, q5, _⟩
    · have hfk := run_findKey (P := P) (w := w) hk q1
      have hrun : (execOp a.eval o).run P w = .ok (.value (.tuple #[zv, .bool false])) w := by
        simp [execOp, hop, hux, hvy, Instr.lookup, run_underlying ht, MapKept.run_getObj_map hb, hck, hfk, zeroValue, typeInfo, hi, hz, Result.andThen]
      exact ⟨_, w, G, _, st, hrun, .refl G, hr, .tup [z, .v (.bool false)] [zv, .bool false] rfl (fun j d u a b => by
        match j with
        | 0 => cases a; cases b; exact hzv G
        | 1 => cases a; cases b; exact .v _
        | j + 2 => simp at a), h2 q2⟩
    · have hfk := run_findKey (P := P) (w := w) hk q1
      have hrun : (execOp a.eval o).run P w = .ok (.value (.tuple #[e.val, .bool true])) w := by
        simp [execOp, hop, hux, hvy, Instr.lookup, run_underlying ht, MapKept.run_getObj_map hb, hck, hfk, Result.andThen]
      exact ⟨_, w, G, _, st, hrun, .refl G, hr, .tup [d, .v (.bool true)] [e.val, .bool true] rfl (fun j d' u a b => by
        match j with
        | 0 => cases a; cases b; exact q4
        | 1 => cases a; cases b; exact .v _
        | j + 2 => simp at a), h1 d q5⟩
/-- m[k]. -/
theorem zv_look {K : D → St → Prop} {t kt et : TypeId} {kk : IntKind} {x y : Operand} {id : Nat} {l : List (Int × D)} {k : Int} {z : D} {zv : Value} {i : TypeInfo} (hop : o.op = .lookup t x y false) (ht : P.underlying t = some (.map kt et)) (hk : P.underlying kt = some (.int kk))
    (hi : P.info? et = some i) (hz : i.zero = some zv) (hzv : ∀ G : Gh, VR G z zv) (hx : ev env x = some (.mp id)) (hy : ev env y = some (.v (.int kk k))) (hN : st.N id = some (mapI kk l))
    (h : K ((lkI l k).getD z) st) : ZVal P w0 n o env st K := by
  intro G w a hr her
  have hvx := ev_ok her hx
  have hvy := (ev_ok her hy).eq_v
  generalize hux : a.eval x = ux at hvx
  cases hvx with
  | mp _ hid =>
    obtain ⟨es, cl, hb, he, hs⟩ := hr.mp.ex id _ hN
    have hck := run_checkKey (P := P) (w := w) (k := .int kk k) hk rfl es.isEmpty 9999
    rcases he.find hs k with ⟨q1, q2, _⟩ | ⟨j, e, d, q1, q2, q3, q4, q5, _⟩
    · have hfk := run_findKey (P := P) (w := w) hk q1
      rw [q2] at h
      have hrun : (execOp a.eval o).run P w = .ok (.value zv) w := by
        simp [execOp, hop, hux, hvy, Instr.lookup, run_underlying ht, MapKept.run_getObj_map hb, hck, hfk, zeroValue, typeInfo, hi, hz, Result.andThen]
      exact ⟨_, w, G, _, st, hrun, .refl G, hr, hzv G, h⟩
    · have hfk := run_findKey (P := P) (w := w) hk q1
      rw [q5] at h
      have hrun : (execOp a.eval o).run P w = .ok (.value e.val) w := by
        simp [execOp, hop, hux, hvy, Instr.lookup, run_underlying ht, MapKept.run_getObj_map hb, hck, hfk, Result.andThen]
      exact ⟨_, w, G, _, st, hrun, .refl G, hr, q4, h⟩
/-- m[k] = v. -/
theorem zop_mapSet {K : Env → St → Prop} {t kt et : TypeId} {kk : IntKind} {x y v : Operand} {id : Nat} {l : List (Int × D)} {k : Int} {d : D} (hop : o.op = .mapUpdate t x y v) (hd : o.dst = none) (ht : P.underlying t = some (.map kt et)) (hk : P.underlying kt = some (.int kk))
    (hx : ev env x = some (.mp id)) (hy : ev env y = some (.v (.int kk k))) (hv : ev env v = some d) (hN : st.N id = some (mapI kk l))
    (h : K env (st.setN id (some (mapI kk (setI l k d))))) : ZOp P w0 n o env st K := by
  intro G w a hr her hdf next Q' hn
  have hvx := ev_ok her hx
  have hvy := (ev_ok her hy).eq_v
  have hvv := ev_ok her hv
  generalize hux : a.eval x = ux at hvx
  generalize huv : a.eval v = uv at hvv
  cases hvx with
  | mp _ hid =>
    obtain ⟨es, cl, hb, he, hs⟩ := hr.mp.ex id _ hN
    have hck := run_checkKey (P := P) (w := w) (k := .int kk k) hk rfl false 9999
    have main : ∀ (es' : Array MapEntry) (cl' : Nat), (Instr.mapUpdate t (.map (some (G.rho id))) (.int kk k) uv).run P w = .ok () { w with heap := w.heap.setIfInBounds (G.rho id) (.map es' cl') } → MEnts G (mapI kk (setI l k d)) es'.toList → Stamped es' cl' → o.wp P a w next Q' := by
      intro es' cl' hq h1 h2
      have hrun : (execOp a.eval o).run P w = .ok .skip { w with heap := w.heap.setIfInBounds (G.rho id) (.map es' cl') } := by
        simp [execOp, hop, hux, hvy, huv, hq]
      unfold Oper.wp
      rw [hrun]
      exact hn G env _ _ _ (.refl G) (hr.setMap hN hb h1 h2) (by simpa [Act.put, hd] using her) (by simpa [Act.put, hd] using hdf) h (fun t u h2 h3 => put_other h2 h3)
    rcases he.find hs k with ⟨q1, q2, q3, _, q5⟩ | ⟨j, e, d0, q1, q2, q3, q4, q5, q6, _⟩
    · have hfk := run_findKey (P := P) (w := w) hk q1
      refine main (es.push { key := .int kk k, val := uv, born := cl }) (cl + 1) (by simp [Instr.mapUpdate, run_underlying ht, MapKept.run_getObj_map hb, hck, hfk, MapKept.run_setObj_map _ hb, Result.andThen]) ?_ (stamped_push hs q5)
      rw [q3]
      have hl : l.length = es.toList.length := by have := he.1; unfold mapI at this; rwa [List.length_map] at this
      refine ⟨by unfold mapI; rw [List.length_map, List.length_append, hl, Array.toList_push, List.length_append]; rfl, fun j k' d' e' h1 h2 => ?_⟩
      simp only [mapI, List.map_append, List.map_cons, List.map_nil, Array.toList_push] at h1 h2
      by_cases hj : j < es.toList.length
      · rw [List.getElem?_append_left (by rw [List.length_map, hl]; exact hj)] at h1
        rw [List.getElem?_append_left hj] at h2
        exact he.2 j k' d' e' h1 h2
      · rw [List.getElem?_append_right (by rw [List.length_map, hl]; omega)] at h1
        rw [List.getElem?_append_right (by omega)] at h2
        rw [List.length_map, hl] at h1
        obtain ⟨jj, hjj⟩ : ∃ jj, j - es.toList.length = jj := ⟨_, rfl⟩
        rw [hjj] at h1 h2
        match jj with
        | 0 => cases h1; cases h2; exact ⟨rfl, hvv⟩
        | jj + 1 => simp at h1
    · have hfk := run_findKey (P := P) (w := w) hk q1
      refine main (es.modify j fun e => { e with key := .int kk k, val := uv }) cl (by simp [Instr.mapUpdate, run_underlying ht, MapKept.run_getObj_map hb, hck, hfk, q2, q3, run_keyThatStays (d := .int kk) (k := .int kk k) rfl, MapKept.run_setObj_map _ hb, Result.andThen]) ?_
        (stamped_modify hs _ _ (fun _ _ => rfl) (fun e' _ he' => by rw [q2] at he'; cases he'; exact q3.symm))
      rw [q6]
      have hl : l.length = es.toList.length := by have := he.1; unfold mapI at this; rwa [List.length_map] at this
      refine ⟨by unfold mapI; rw [List.length_map, List.length_set, hl]; simp, fun i k' d' e' h1 h2 => ?_⟩
      simp only [mapI, List.map_set] at h1
      have h2' : (es.modify j fun e => { e with key := .int kk k, val := uv })[i]? = some e' := by rw [← Array.getElem?_toList]; exact h2
      rw [Array.getElem?_modify] at h2'
      by_cases hij : i = j
      · subst hij
        rw [if_pos rfl, q2] at h2'
        rw [List.getElem?_set_self (by rw [List.length_map, hl, Array.length_toList]; exact (Array.getElem?_eq_some_iff.1 q2).1)] at h1
        cases h1
        simp only [Option.map_some, Option.some.injEq] at h2'
        subst h2'
        exact ⟨rfl, hvv⟩
      · rw [if_neg (Ne.symm hij)] at h2'
        rw [List.getElem?_set_ne (Ne.symm hij)] at h1
        exact he.2 i k' d' e' h1 (by rw [Array.getElem?_toList]; exact h2')
/-- delete(m, k). -/
theorem zop_mapDel {K : Env → St → Prop} {t kt2 kt et : TypeId} {kk : IntKind} {x y : Operand} {id : Nat} {l : List (Int × D)} {k : Int} (hop : o.op = .call { callee := .builtin .delete, args := #[x, y], argTypes := #[t, kt2] }) (hd : o.dst = none) (ht : P.underlying t = some (.map kt et)) (hk : P.underlying kt = some (.int kk))
    (hx : ev env x = some (.mp id)) (hy : ev env y = some (.v (.int kk k))) (hN : st.N id = some (mapI kk l))
    (h : K env (st.setN id (some (mapI kk (delI l k))))) : ZOp P w0 n o env st K := by
  intro G w a hr her hdf next Q' hn
  have hvx := ev_ok her hx
  have hvy := (ev_ok her hy).eq_v
  generalize hux : a.eval x = ux at hvx
  cases hvx with
  | mp _ hid =>
    obtain ⟨es, cl, hb, he, hs⟩ := hr.mp.ex id _ hN
    have hck := run_checkKey (P := P) (w := w) (k := .int kk k) hk rfl es.isEmpty 9999
    have hl : l.length = es.toList.length := by have := he.1; unfold mapI at this; rwa [List.length_map] at this
    have main : ∀ (es' : Array MapEntry), (Builtin.delete_ #[t, kt2] o.type #[.map (some (G.rho id)), .int kk k]).run P w = .ok (.tuple #[]) { w with heap := w.heap.setIfInBounds (G.rho id) (.map es' cl) } → MEnts G (mapI kk (delI l k)) es'.toList → Stamped es' cl → o.wp P a w next Q' := by
      intro es' hq h1 h2
      have hrun : (execOp a.eval o).run P w = .ok (.value (.tuple #[])) { w with heap := w.heap.setIfInBounds (G.rho id) (.map es' cl) } := by
        simp [execOp, hop, resolve, invoke, builtin, hux, hvy, hq]
      unfold Oper.wp
      rw [hrun]
      simp only [Oper.upon, hd]
      exact hn G env _ (a.put none (.tuple #[])) _ (.refl G) (hr.setMap hN hb h1 h2) (by simpa [Act.put] using her) (by simpa [Act.put] using hdf) h (fun t u _ hu => by simpa [Act.put] using hu)
    rcases he.find hs k with ⟨q1, q2, _, q4, q5⟩ | ⟨j, e, d0, q1, q2, q3, q4, q5, _, q7⟩
    · have hfk := run_findKey (P := P) (w := w) hk q1
      refine main es (by simp [Builtin.delete_, run_underlying ht, MapKept.run_getObj_map hb, hck, hfk, MapKept.run_setObj_map _ hb, Result.andThen]) ?_ hs
      rw [q4]; exact he
    · have hfk := run_findKey (P := P) (w := w) hk q1
      refine main (es.eraseIdxIfInBounds j) (by simp [Builtin.delete_, run_underlying ht, MapKept.run_getObj_map hb, hck, hfk, MapKept.run_setObj_map _ hb, Result.andThen]) ?_ (stamped_erase hs j)
      have hj : j < es.size := (Array.getElem?_eq_some_iff.1 q2).1
      have e1 : (es.eraseIdxIfInBounds j).toList = es.toList.eraseIdx j := by
        unfold Array.eraseIdxIfInBounds
        rw [dif_pos hj, Array.toList_eraseIdx]
      rw [q7, e1]
      refine ⟨by unfold mapI; rw [List.length_map, List.length_eraseIdx, List.length_eraseIdx, hl], fun i k' d' e' h1 h2 => ?_⟩
      have h1' : (l.eraseIdx j)[i]? = some (match k' with | .int _ q => q | _ => 0, d') ∧ k' = .int kk (match k' with | .int _ q => q | _ => 0) := by
        unfold mapI at h1
        rw [List.getElem?_map] at h1
        obtain ⟨p, hp, hpe⟩ := Option.map_eq_some_iff.1 h1
        cases hpe
        exact ⟨hp, rfl⟩
      obtain ⟨g1, g2⟩ := h1'
      rw [List.getElem?_eraseIdx] at g1 h2
      rw [g2]
      split at g1
      · rename_i hij
        rw [if_pos hij] at h2
        exact he.2 i _ d' e' (by unfold mapI; rw [List.getElem?_map, g1]; rfl) h2
      · rename_i hij
        rw [if_neg hij] at h2
        exact he.2 (i + 1) _ d' e' (by unfold mapI; rw [List.getElem?_map, g1]; rfl) h2
/-- len(m). -/
theorem zv_mapLen {K : D → St → Prop} {t kt et : TypeId} {x : Operand} {id : Nat} {m : List (Value × D)} (hop : o.op = .call { callee := .builtin .len, args := #[x], argTypes := #[t] }) (ht : P.underlying t = some (.map kt et)) (hx : ev env x = some (.mp id)) (hN : st.N id = some m)
    (h : K (.v (.int .i64 m.length)) st) : ZVal P w0 n o env st K := by
  intro G w a hr her
  have hvx := ev_ok her hx
  generalize hux : a.eval x = ux at hvx
  cases hvx with
  | mp _ hid =>
    obtain ⟨es, cl, hb, he, hs⟩ := hr.mp.ex id _ hN
    have hl : es.size = m.length := by rw [he.1, Array.length_toList]
    have hrun : (execOp a.eval o).run P w = .ok (.value (.int .i64 m.length)) w := by
      simp [execOp, hop, resolve, invoke, builtin, Builtin.len_, run_underlying ht, hux, MapKept.run_getObj_map hb, goInt, hl, Result.andThen]
    exact ⟨_, w, G, _, st, hrun, .refl G, hr, .v _, h⟩
end Go.Proofs.Zm
/- The framework's sixty-first part: a text's byte. -/
namespace Go.Proofs.Zm
open Go.RowKit
set_option linter.unusedVariables false
variable {P : Program} {o : Oper} {env : Env}
theorem zp_strByte {t : TypeId} {x y : Operand} {s : ByteArray} {k : IntKind} {j : Int} {b : UInt8} (hop : o.op = .index t x y) (ht : P.underlying t = some .string) (hx : ev env x = some (.v (.string s))) (hy : ev env y = some (.v (.int k j)))
    (h0 : 0 ≤ j) (hb : s.data[j.toNat]? = some b) : ZPure0 P o env (.v (.int .u8 ((b.toNat : Nat) : Int))) := fun G n a her => by
  have ex := (ev_ok her hx).eq_v
  have ey := (ev_ok her hy).eq_v
  obtain ⟨q, rfl⟩ := Int.eq_ofNat_of_zero_le h0
  simp only [Int.toNat_natCast] at hb
  have hq : q < s.size := (Array.getElem?_eq_some_iff.1 hb).1
  have hs : s[q]? = some b := by
    rw [getElem?_pos s q hq]
    exact congrArg some (Array.getElem?_eq_some_iff.1 hb).2
  refine ⟨_, .v _, fun w => ?_⟩
  simp [execOp, hop, ex, ey, Instr.index, run_underlying ht, asIntOf, Result.andThen, hs]
end Go.Proofs.Zm
/- The framework's sixty-second part: own memory beside maps that are made, written. -/
namespace Go.Proofs.Zm
set_option linter.unusedVariables false
theorem Ext.setNew {a b : St} (h : Ext a b) {id : Nat} (hid : a.N id = Option.none) (x : Option (List (Value × D))) : Ext a (b.setN id x) := ⟨h.H, h.T, fun i m e => by
  by_cases hi : i = id
  · subst hi; rw [hid] at e; cases e
  · simp [hi]; exact h.N i m e⟩
theorem Ext.reN {a b : St} (h : Ext a b) (id : Nat) (x : Option (List (Value × D))) : Ext (a.setN id x) (b.setN id x) := ⟨h.H, h.T, fun i m e => by
  by_cases hi : i = id
  · subst hi; simpa using e
  · simp [hi] at e ⊢; exact h.N i m e⟩
theorem Sep.reN {st0 st : St} {L : List (Option Nat × List D)} (h : Sep st0 st L) (id : Nat) (x : Option (List (Value × D))) : Sep (st0.setN id x) (st.setN id x) L := ⟨h.ext.reN id x, h.own, h.new, h.apart⟩
theorem Ext.noneN {a b : St} (h : Ext a b) {id : Nat} (hb : b.N id = Option.none) : a.N id = Option.none := by
  cases e : a.N id with
  | none => rfl
  | some m => rw [h.N id m e] at hb; cases hb
theorem setN_self (s : St) (id : Nat) (x : Option (List (Value × D))) : (s.setN id x).N id = x := by simp
end Go.Proofs.Zm
/- The framework's sixty-third part: what a call of the kit's own contracts leaves: all that stood stands; a new block that is only read. -/
namespace Go.Proofs.Zm
open Go.RowKit Go.MapKept
set_option linter.unusedVariables false
set_option linter.unusedSimpArgs false
section
variable {w0 : World} {G : Gh} {st : St} {w w1 : World}

theorem Rel.given (h : Rel w0 G st w) (hb : Below w.heap.size w w1) (b : Nat) (c : List Value) (e : TypeId) (fr : Nat × Nat) (hbb : w.heap.size ≤ b) (hnew : w1.heap[b]? = some (.cells c.toArray e fr)) :
    ∃ G', G.le G' ∧ Rel w0 G' st w1 ∧ G'.nx = G.nx ∧ ∀ j u, c[j]? = some u → G'.M ⟨b, j, none⟩ = some u := by
  have hold : ∀ k, k < w.heap.size → w1.heap[k]? = w.heap[k]? := hb.block
  have hMb : ∀ a u, G.M a = some u → a.block < w.heap.size := fun a u hu => cell_lt (h.mem a u hu)
  let G' : Gh := { M := fun a => if a.block = b then (if a.spot = none then c[a.off]? else none) else G.M a, rho := G.rho, tau := G.tau, nx := G.nx }
  have hMo : ∀ a, a.block ≠ b → G'.M a = G.M a := fun a hne => by simp [G', hne]
  have hle : G.le G' := ⟨fun a u hu => by rw [hMo a (by have := hMb a u hu; omega)]; exact hu, fun _ _ => rfl, fun _ _ => rfl, Nat.le_refl _⟩
  have hxb : ∀ id cs, st.H id = some cs → G.rho id < w.heap.size := fun id cs e1 => by
    obtain ⟨c', e', h1, _⟩ := h.ex id cs e1
    exact (Array.getElem?_eq_some_iff.1 h1).1
  have htb : ∀ t, st.T t = true → (G.tau t).2.2 ≠ 0 → (G.tau t).1 < w.heap.size := fun t e1 e2 => by
    obtain ⟨c', e', h1, _⟩ := h.tk t e1 e2
    exact (Array.getElem?_eq_some_iff.1 h1).1
  refine ⟨G', hle, ?_, rfl, fun j u hj => by simp [G', hj]⟩
  exact {
    mem := fun a u hu => by
      by_cases hbb' : a.block = b
      · simp only [G', hbb', if_true] at hu
        split at hu
        · rename_i hs
          obtain ⟨b', off, spot⟩ := a
          simp only at hbb' hs hu
          subst hs
          subst hbb'
          rw [cell_heap hnew]; exact hu
        · cases hu
      · rw [hMo a hbb'] at hu
        rw [cell_same (hold _ (hMb a u hu))]
        exact h.mem a u hu
    nxH := h.nxH
    nxT := h.nxT
    nx0 := h.nx0
    T0 := h.T0
    ex := fun id cs e1 => by
      obtain ⟨c', e', h1, h2, h3, h4⟩ := h.ex id cs e1
      exact ⟨c', e', (hold _ (hxb id cs e1)).trans h1, h2, h3, fun j d u a b => (h4 j d u a b).mono hle⟩
    exM := fun id cs a u e1 hu => by
      by_cases hbb' : a.block = b
      · rw [hbb']; have := hxb id cs e1; exact fun he => by rw [show G'.rho id = G.rho id from rfl] at he; omega
      · rw [hMo a hbb'] at hu; exact h.exM id cs a u e1 hu
    exB := h.exB
    exI := h.exI
    tk := fun t e1 e2 => by
      obtain ⟨c', e', h1, h2⟩ := h.tk t e1 e2
      exact ⟨c', e', (hold _ (htb t e1 e2)).trans h1, h2⟩
    tkM := fun t a u e1 e2 hu hb2 => by
      have hlt : (G.tau t).1 < w.heap.size := htb t e1 e2
      have hne : a.block ≠ b := by
        rw [hb2]; show (G.tau t).1 ≠ b; omega
      rw [hMo a hne] at hu
      exact h.tkM t a u e1 e2 hu hb2
    tkB := h.tkB
    tkI := h.tkI
    tkE := h.tkE
    mp := h.mp.frame hle (fun i es cl hi => (hold i (Array.getElem?_eq_some_iff.1 hi).1).trans hi)
    below := h.below.trans (hb.mono h.below.size) }
/-- Nothing that stood before turned, and nothing new is told of. -/
theorem Rel.stood (h : Rel w0 G st w) (hb : Below w.heap.size w w1) : Rel w0 G st w1 := by
  have hold : ∀ k, k < w.heap.size → w1.heap[k]? = w.heap[k]? := hb.block
  exact {
    mem := fun a u hu => by rw [cell_same (hold _ (cell_lt (h.mem a u hu)))]; exact h.mem a u hu
    nxH := h.nxH
    nxT := h.nxT
    nx0 := h.nx0
    T0 := h.T0
    ex := fun id cs e1 => by
      obtain ⟨c', e', h1, h2, h3, h4⟩ := h.ex id cs e1
      exact ⟨c', e', (hold _ (Array.getElem?_eq_some_iff.1 h1).1).trans h1, h2, h3, h4⟩
    exM := h.exM
    exB := h.exB
    exI := h.exI
    tk := fun t e1 e2 => by
      obtain ⟨c', e', h1, h2⟩ := h.tk t e1 e2
      exact ⟨c', e', (hold _ (Array.getElem?_eq_some_iff.1 h1).1).trans h1, h2⟩
    tkM := h.tkM
    tkB := h.tkB
    tkI := h.tkI
    tkE := h.tkE
    mp := h.mp.frame (.refl G) (fun i es cl hi => (hold i (Array.getElem?_eq_some_iff.1 hi).1).trans hi)
    below := h.below.trans (hb.mono h.below.size) }
end
variable {P : Program} {w0 : World} {n : Nat} {o : Oper} {env : Env} {st : St}
/-- v, ok := m[k], the element's kind in hand. -/
theorem zv_lookOk1 {K : D → St → Prop} {t kt et : TypeId} {kk : IntKind} {x y : Operand} {id : Nat} {l : List (Int × D)} {k : Int} {z f : D} {b : Bool} {zv : Value} {i : TypeInfo} (hop : o.op = .lookup t x y true) (ht : P.underlying t = some (.map kt et)) (hk : P.underlying kt = some (.int kk))
    (hi : P.info? et = some i) (hz : i.zero = some zv) (hzv : ∀ G : Gh, VR G z zv) (hx : ev env x = some (.mp id)) (hy : ev env y = some (.v (.int kk k))) (hN : st.N id = some (mapI kk l)) (hf : (lkI l k).getD z = f) (hb : (lkI l k).isSome = b)
    (h : K (.tup [f, .v (.bool b)]) st) : ZVal P w0 n o env st K :=
  zv_lookOk hop ht hk hi hz hzv hx hy hN (fun d hd => by rw [hd] at hf hb; cases hf; cases hb; exact h) (fun hd => by rw [hd] at hf hb; cases hf; cases hb; exact h)
/-- A result told less sharply. -/
theorem SoundF.le {P : Program} {f : FuncId} {s s' : ZSpec} (h : SoundF P f s) (hs : ∀ args st K, s' args st K → s args st (fun d st' => ∃ r, K r st' ∧ DLe d r)) : SoundF P f s' := fun w0 args st K hk G w vals hr hv =>
  (h w0 args st _ (hs args st K hk) G w vals hr hv).mono fun e w' hq => by
    obtain ⟨v, d, st', G', rfl, hle, hrel, hvr, r, hK, hd⟩ := hq
    exact ⟨v, r, st', G', rfl, hle, hrel, hd _ _ hvr, hK⟩
theorem Ext.setSame {st : St} {id : Nat} {x : List (Value × D)} (h : st.N id = some x) : Ext (st.setN id (some x)) st := ⟨fun _ _ e => e, fun _ e => e, fun i m e => by
  by_cases hi : i = id
  · subst hi; simp at e; subst e; exact h
  · simp [hi] at e; exact e⟩
theorem setN_self_eq {st : St} {id : Nat} {x : List (Value × D)} (h : st.N id = some x) : st.setN id (some x) = st := by
  unfold St.setN
  congr 1
  funext i
  split
  · rename_i hi; rw [hi]; exact h.symm
  · rfl
theorem setN_setN (st : St) (id : Nat) (x y : Option (List (Value × D))) : (st.setN id x).setN id y = st.setN id y := by
  unfold St.setN
  congr 1
  funext i
  split <;> simp_all
/-- Where an integer's field of a struct lies. -/
def fieldInt (P : Program) (t f off : Nat) : Prop := ∃ fs fd kk, P.underlying t = some (.struct fs) ∧ fs[f]? = some fd ∧ fd.offset = off ∧ P.underlying fd.type = some (.int kk)
/-- x.f of a struct that is a value. -/
theorem zp_field {t f off : Nat} {x : Operand} {cs : List D} {d : D} (hop : o.op = .field t x f) (hf : fieldInt P t f off) (hx : ev env x = some (.agg cs)) (hd : cs[off]? = some d) : ZPure0 P o env d := fun G n a he => by
  have hv := ev_ok he hx
  generalize hu : a.eval x = u at hv
  cases hv with
  | agg _ us hl hvs =>
    obtain ⟨fs, fd, kk, h1, h2, rfl, h4⟩ := hf
    obtain ⟨u, hu1⟩ : ∃ u, us[fd.offset]? = some u := ⟨_, List.getElem?_eq_getElem (by rw [← hl]; exact (List.getElem?_eq_some_iff.1 hd).1)⟩
    refine ⟨u, hvs _ d u hd hu1, fun w => ?_⟩
    simp [execOp, hop, hu, Instr.field, run_underlying h1, h2, asAgg, part, isAgg, run_underlying h4, hu1]
/-- Arguments told more sharply. -/
theorem SoundF.args {P : Program} {f : FuncId} {s : ZSpec} (h : SoundF P f s) : SoundF P f (fun args st K => ∃ args', DLes args args' ∧ s args' st K) := fun w0 args st K ⟨args', hl, hk⟩ G w vals hr hv =>
  h w0 args' st K hk G w vals hr ⟨by rw [← hl.length]; exact hv.1, fun i d u h1 h2 => by
    obtain ⟨e, h3, h4⟩ := hl.get i d h1
    exact h4 _ _ (hv.2 i e u h3 h2)⟩
end Go.Proofs.Zm
/- The framework's fifty-eighth part: make([]T, m) that is only read. -/
namespace Go.Proofs.Zm
open Go.RowKit
set_option linter.unusedVariables false
variable {P : Program} {w0 : World} {n : Nat} {env : Env} {st : St}
theorem zv_make0 {o : Oper} {t e k by_ : Nat} {z : List D} {x y : Operand} {kx ky : IntKind} {m c : Int} {K : D → St → Prop} (hop : o.op = .makeSlice t x y) (he : ElemOk P e k by_ z) (hz1 : ∀ d ∈ z, oneD d = true) (ht : P.underlying t = some (.slice e))
    (hx : ev env x = some (.v (.int kx m))) (hy : ev env y = some (.v (.int ky c))) (h0 : 0 ≤ m) (hmc : m ≤ c) (hb : by_ * c.toNat ≤ 281474976710656)
    (h : K (.row (List.replicate m.toNat z) k 0) st) : ZVal P w0 n o env st K := by
  intro G w a hr her
  obtain ⟨v, w', G', d, st', h1, h2, h3, h4, t', h6, h7, rfl, rfl⟩ := zv_make (w0 := w0) (n := n) (st := st) (K := fun d s => ∃ t', st.T t' = false ∧ t' ≠ 0 ∧ d = .row (List.replicate m.toNat z) k t' ∧ s = st.setT t' true) hop he hz1 ht hx hy h0 hmc hb (fun t' a b => ⟨t', a, b, rfl, rfl⟩) G w a hr her
  refine ⟨v, w', G', _, st, h1, h2, h3.forget (fun _ _ e => e) (fun q e => ?_), h4.notok, h⟩
  by_cases hq : q = t' <;> simp [hq, e]
end Go.Proofs.Zm
/- The framework's forty-fifth part: struct arguments of a row, how long a row of eight-byte numbers is at most. -/
namespace Go.Proofs.Zm
open Go.RowKit Go.ChangeShapes Go.WideShapes
set_option linter.unusedVariables false
end Go.Proofs.Zm
