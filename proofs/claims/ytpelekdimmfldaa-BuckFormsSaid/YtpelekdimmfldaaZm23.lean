/- The framework's twenty-third part: what a call owns, told by a list (each part apart from the others), rows that grow in place, nil or not. -/
import Derived.Test.YtpelekdimmfldaaZm22
namespace Go.Proofs.Zm
open Go.RowKit
set_option linter.unusedVariables false

/-- What is owned beside st0: blocks, each by its name (none: nothing) and its cells. -/
structure Sep (st0 st : St) (L : List (Option Nat × List D)) : Prop where
  ext : Ext st0 st
  own : ∀ id cs, (some id, cs) ∈ L → st.H id = some cs
  new : ∀ id cs, (some id, cs) ∈ L → st0.H id = none
  apart : (L.filterMap Prod.fst).Nodup

theorem Sep.nil (st : St) : Sep st st [] := ⟨Ext.refl st, fun _ _ h => (by cases h), fun _ _ h => (by cases h), List.nodup_nil⟩
theorem Sep.addNone {st0 st : St} {L : List (Option Nat × List D)} (h : Sep st0 st L) (cs : List D) : Sep st0 st ((none, cs) :: L) :=
  ⟨h.ext, fun id c hm => h.own id c (by simpa using hm), fun id c hm => h.new id c (by simpa using hm), by simpa using h.apart⟩
theorem Sep.mem_ids {L : List (Option Nat × List D)} {id : Nat} (h : id ∈ L.filterMap Prod.fst) : ∃ cs, (some id, cs) ∈ L := by
  obtain ⟨⟨o, cs⟩, h1, h2⟩ := List.mem_filterMap.1 h
  simp only at h2
  subst h2
  exact ⟨cs, h1⟩
theorem Sep.alloc {st0 st : St} {L : List (Option Nat × List D)} (h : Sep st0 st L) {id : Nat} (hf : Fresh st id) (cs : List D) : Sep st0 (st.setH id (some cs)) ((some id, cs) :: L) where
  ext := h.ext.fresh hf _
  own := fun i c hm => by
    rcases List.mem_cons.1 hm with e | hm
    · cases e; exact St.setH_self _ _ _
    · exact St.setH_new (h.own i c hm) hf
  new := fun i c hm => by
    rcases List.mem_cons.1 hm with e | hm
    · cases e; exact h.ext.none hf.1
    · exact h.new i c hm
  apart := by
    rw [List.filterMap_cons]
    simp only
    refine List.nodup_cons.2 ⟨fun hm => ?_, h.apart⟩
    obtain ⟨c, hc⟩ := Sep.mem_ids hm
    have := h.own _ _ hc
    rw [hf.1] at this
    cases this

theorem Sep.at_ {st0 st : St} {L : List (Option Nat × List D)} (h : Sep st0 st L) {i id : Nat} {cs : List D} (hi : L[i]? = some (some id, cs)) : st.H id = some cs := h.own _ _ (List.mem_of_getElem? hi)

theorem ids_split (L : List (Option Nat × List D)) (i id : Nat) (cs : List D) (hi : L[i]? = some (some id, cs)) (ha : (L.filterMap Prod.fst).Nodup) :
    (∀ (o : Option Nat) (c : List D), ((L.set i (o, c)).filterMap Prod.fst).Nodup ∨ ∃ j, o = some j ∧ j ≠ id ∧ j ∈ L.filterMap Prod.fst) ∧ ((L.eraseIdx i).filterMap Prod.fst).Nodup ∧
      (∀ x c, (some x, c) ∈ L.eraseIdx i → (some x, c) ∈ L ∧ x ≠ id) ∧ (∀ (o : Option Nat) (c : List D) x c', (some x, c') ∈ L.set i (o, c) → (o = some x ∧ c' = c) ∨ ((some x, c') ∈ L ∧ x ≠ id)) := by
  induction L generalizing i with
  | nil => simp at hi
  | cons p L ih =>
    obtain ⟨o1, c1⟩ := p
    cases i with
    | zero =>
      simp only [List.getElem?_cons_zero, Option.some.injEq, Prod.mk.injEq] at hi
      obtain ⟨rfl, rfl⟩ := hi
      have ha' : id ∉ L.filterMap Prod.fst ∧ (L.filterMap Prod.fst).Nodup := by
        rw [List.filterMap_cons] at ha
        simp only at ha
        exact List.nodup_cons.1 ha
      have hne : ∀ x c, (some x, c) ∈ L → x ≠ id := fun x c hx e => ha'.1 (List.mem_filterMap.2 ⟨_, hx, by rw [e]⟩)
      refine ⟨fun o c => ?_, ha'.2, fun x c hx => ⟨List.mem_cons_of_mem _ hx, hne x c hx⟩, fun o c x c' hx => ?_⟩
      · cases o with
        | none => left; simpa using ha'.2
        | some j =>
          by_cases hj : j ∈ L.filterMap Prod.fst
          · right
            refine ⟨j, rfl, fun e => ha'.1 (e ▸ hj), ?_⟩
            rw [List.filterMap_cons]; simp only; exact List.mem_cons_of_mem _ hj
          · left
            rw [List.set_cons_zero, List.filterMap_cons]; simp only
            exact List.nodup_cons.2 ⟨hj, ha'.2⟩
      · rw [List.set_cons_zero] at hx
        rcases List.mem_cons.1 hx with e | hx
        · left; cases e; exact ⟨rfl, rfl⟩
        · exact .inr ⟨List.mem_cons_of_mem _ hx, hne x c' hx⟩
    | succ i =>
      simp only [List.getElem?_cons_succ] at hi
      have hL : (L.filterMap Prod.fst).Nodup := by
        rw [List.filterMap_cons] at ha
        cases o1 with
        | none => exact ha
        | some j => exact (List.nodup_cons.1 ha).2
      obtain ⟨h1, h2, h3, h4⟩ := ih i hi hL
      have hidm : id ∈ L.filterMap Prod.fst := List.mem_filterMap.2 ⟨_, List.mem_of_getElem? hi, rfl⟩
      have ho1 : ∀ j, o1 = some j → j ∉ L.filterMap Prod.fst := fun j e => by
        subst e
        rw [List.filterMap_cons] at ha
        exact (List.nodup_cons.1 ha).1
      refine ⟨fun o c => ?_, ?_, fun x c hx => ?_, fun o c x c' hx => ?_⟩
      · rcases h1 o c with h | ⟨j, e, hj, hm⟩
        · cases o1 with
          | none => left; rw [List.set_cons_succ, List.filterMap_cons]; exact h
          | some q =>
            by_cases ho : o = some q
            · right
              subst ho
              refine ⟨q, rfl, fun e => ho1 q rfl (e ▸ hidm), ?_⟩
              rw [List.filterMap_cons]; simp
            · left
              rw [List.set_cons_succ, List.filterMap_cons]
              simp only
              refine List.nodup_cons.2 ⟨fun hm => ?_, h⟩
              obtain ⟨c2, hc2⟩ := Sep.mem_ids hm
              rcases h4 o c q c2 hc2 with ⟨e, _⟩ | ⟨e, _⟩
              · exact ho e
              · exact ho1 q rfl (List.mem_filterMap.2 ⟨_, e, rfl⟩)
        · right
          refine ⟨j, e, hj, ?_⟩
          rw [List.filterMap_cons]
          cases o1 with
          | none => exact hm
          | some q => exact List.mem_cons_of_mem _ hm
      · rw [List.eraseIdx_cons_succ, List.filterMap_cons]
        cases o1 with
        | none => exact h2
        | some q =>
          simp only
          refine List.nodup_cons.2 ⟨fun hm => ?_, h2⟩
          obtain ⟨c2, hc2⟩ := Sep.mem_ids hm
          exact ho1 q rfl (List.mem_filterMap.2 ⟨_, (h3 q c2 hc2).1, rfl⟩)
      · rw [List.eraseIdx_cons_succ] at hx
        rcases List.mem_cons.1 hx with e | hx
        · cases e
          exact ⟨List.mem_cons_self .., fun e => ho1 x rfl (e ▸ hidm)⟩
        · exact ⟨List.mem_cons_of_mem _ (h3 x c hx).1, (h3 x c hx).2⟩
      · rw [List.set_cons_succ] at hx
        rcases List.mem_cons.1 hx with e | hx
        · cases e
          exact .inr ⟨List.mem_cons_self .., fun e => ho1 x rfl (e ▸ hidm)⟩
        · rcases h4 o c x c' hx with h | ⟨h, hne⟩
          · exact .inl h
          · exact .inr ⟨List.mem_cons_of_mem _ h, hne⟩

/-- A part's cells are others now. -/
theorem Sep.put {st0 st : St} {L : List (Option Nat × List D)} (h : Sep st0 st L) {i id : Nat} {cs : List D} (hi : L[i]? = some (some id, cs)) (cs' : List D) : Sep st0 (st.setH id (some cs')) (L.set i (some id, cs')) := by
  obtain ⟨h1, h2, h3, h4⟩ := ids_split L i id cs hi h.apart
  refine ⟨h.ext.setH (h.new id cs (List.mem_of_getElem? hi)) _, fun x c hx => ?_, fun x c hx => ?_, ?_⟩
  · rcases h4 _ _ x c hx with ⟨e, rfl⟩ | ⟨hm, hne⟩
    · cases e; exact St.setH_self _ _ _
    · exact St.setH_ne (h.own x c hm) hne
  · rcases h4 _ _ x c hx with ⟨e, rfl⟩ | ⟨hm, hne⟩
    · cases e; exact h.new _ _ (List.mem_of_getElem? hi)
    · exact h.new x c hm
  · rcases h1 (some id) cs' with h | ⟨j, e, hj, _⟩
    · exact h
    · cases e; exact absurd rfl hj
/-- A part is another block now. -/
theorem Sep.swap {st0 st : St} {L : List (Option Nat × List D)} (h : Sep st0 st L) {i : Nat} {o : Option Nat} {cs : List D} (hi : L[i]? = some (o, cs)) {id2 : Nat} (hf : Fresh st id2) (cs' : List D) :
    Sep st0 (st.setH id2 (some cs')) (L.set i (some id2, cs')) := by
  have hid2 : ∀ x c, (some x, c) ∈ L → x ≠ id2 := fun x c hx e => by
    have := h.own x c hx
    rw [e, hf.1] at this
    cases this
  have hsub : ∀ x c, (some x, c) ∈ L.set i (some id2, cs') → (x = id2 ∧ c = cs') ∨ (some x, c) ∈ L := fun x c hx => by
    rcases List.mem_or_eq_of_mem_set hx with hx | e
    · exact .inr hx
    · cases e; exact .inl ⟨rfl, rfl⟩
  refine ⟨h.ext.fresh hf _, fun x c hx => ?_, fun x c hx => ?_, ?_⟩
  · rcases hsub x c hx with ⟨rfl, rfl⟩ | hm
    · exact St.setH_self _ _ _
    · exact St.setH_new (h.own x c hm) hf
  · rcases hsub x c hx with ⟨rfl, rfl⟩ | hm
    · exact h.ext.none hf.1
    · exact h.new x c hm
  · cases o with
    | some id =>
      obtain ⟨h1, h2, h3, h4⟩ := ids_split L i id cs hi h.apart
      rcases h1 (some id2) cs' with h' | ⟨j, e, hj, hm⟩
      · exact h'
      · cases e
        obtain ⟨c, hc⟩ := Sep.mem_ids hm
        exact absurd rfl (hid2 _ c hc)
    | none =>
      -- a part of nothing becomes a block
      have key : ∀ (L : List (Option Nat × List D)) (i : Nat), L[i]? = some (none, cs) → (L.filterMap Prod.fst).Nodup → (∀ x c, (some x, c) ∈ L → x ≠ id2) → ((L.set i (some id2, cs')).filterMap Prod.fst).Nodup := by
        intro L
        induction L with
        | nil => intro i hi; simp at hi
        | cons p L ih =>
          obtain ⟨o1, c1⟩ := p
          intro i hi ha hne
          cases i with
          | zero =>
            simp only [List.getElem?_cons_zero, Option.some.injEq, Prod.mk.injEq] at hi
            obtain ⟨rfl, rfl⟩ := hi
            rw [List.set_cons_zero, List.filterMap_cons]
            simp only
            refine List.nodup_cons.2 ⟨fun hm => ?_, by simpa using ha⟩
            obtain ⟨c, hc⟩ := Sep.mem_ids hm
            exact hne _ c (List.mem_cons_of_mem _ hc) rfl
          | succ i =>
            simp only [List.getElem?_cons_succ] at hi
            rw [List.set_cons_succ, List.filterMap_cons]
            cases o1 with
            | none => exact ih i hi (by simpa using ha) fun x c hx => hne x c (List.mem_cons_of_mem _ hx)
            | some q =>
              rw [List.filterMap_cons] at ha
              simp only at ha ⊢
              obtain ⟨ha1, ha2⟩ := List.nodup_cons.1 ha
              refine List.nodup_cons.2 ⟨fun hm => ?_, ih i hi ha2 fun x c hx => hne x c (List.mem_cons_of_mem _ hx)⟩
              obtain ⟨c, hc⟩ := Sep.mem_ids hm
              rcases List.mem_or_eq_of_mem_set hc with hc | e
              · exact ha1 (List.mem_filterMap.2 ⟨_, hc, rfl⟩)
              · cases e; exact hne id2 c1 (List.mem_cons_self ..) rfl
      exact key L i hi h.apart hid2
/-- A part is owned no more. -/
theorem Sep.drop {st0 st : St} {L : List (Option Nat × List D)} (h : Sep st0 st L) {i id : Nat} {cs : List D} (hi : L[i]? = some (some id, cs)) : Sep st0 (st.setH id none) (L.eraseIdx i) := by
  obtain ⟨h1, h2, h3, h4⟩ := ids_split L i id cs hi h.apart
  exact ⟨h.ext.setH (h.new id cs (List.mem_of_getElem? hi)) _, fun x c hx => St.setH_ne (h.own x c (h3 x c hx).1) (h3 x c hx).2, fun x c hx => h.new x c (h3 x c hx).1, h2⟩
theorem Sep.erase {st0 st : St} {L : List (Option Nat × List D)} (h : Sep st0 st L) (i : Nat) : Sep st0 st (L.eraseIdx i) := by
  have hs : (L.eraseIdx i).Sublist L := List.eraseIdx_sublist L i
  exact ⟨h.ext, fun x c hx => h.own x c (hs.subset hx), fun x c hx => h.new x c (hs.subset hx), (hs.filterMap _).nodup h.apart⟩
theorem Sep.perm {st0 st : St} {L L' : List (Option Nat × List D)} (h : Sep st0 st L) (hp : L.Perm L') : Sep st0 st L' :=
  ⟨h.ext, fun x c hx => h.own x c (hp.mem_iff.2 hx), fun x c hx => h.new x c (hp.mem_iff.2 hx), (hp.filterMap _).nodup_iff.1 h.apart⟩

/-- A row that is owned: nil, or a block's beginning. -/
def orow : Option Nat → Nat → Nat → D
  | some id, m, c => .mrow id 0 m c
  | none, _, _ => .v (.slice none 0 0)
/-- Such a row's cells: m elements of k cells each are told, there is room for c. -/
structure GRow (o : Option Nat) (full : List D) (k m c : Nat) (cells : List D) : Prop where
  len : full.length = c * k
  room : m ≤ c
  nil : o = none → c = 0
  cells : full.take (m * k) = cells
theorem GRow.empty (k : Nat) : GRow none [] k 0 0 [] := ⟨by simp, Nat.le_refl _, fun _ => rfl, by simp⟩
theorem GRow.length {o : Option Nat} {full : List D} {k m c : Nat} {cells : List D} (h : GRow o full k m c cells) : cells.length = m * k := by
  rw [← h.cells, List.length_take, h.len]
  exact Nat.min_eq_left (Nat.mul_le_mul_right _ h.room)
theorem GRow.isBlock {o : Option Nat} {full : List D} {k m c : Nat} {cells : List D} (h : GRow o full k m c cells) (hm : 0 < m) : ∃ id, o = some id := by
  cases o with
  | none => have := h.nil rfl; have := h.room; omega
  | some id => exact ⟨id, rfl⟩
theorem GRow.get {o : Option Nat} {full : List D} {k m c : Nat} {cells : List D} (h : GRow o full k m c cells) {j : Nat} (hj : j < m * k) : full[j]? = cells[j]? := by
  rw [← h.cells, List.getElem?_take, if_pos hj]
theorem GRow.full {id : Nat} {full : List D} {k c : Nat} (h : full.length = c * k) : GRow (some id) full k c c full := ⟨h, Nat.le_refl _, fun e => (by cases e), by rw [← h, List.take_length]⟩

theorem zero_vrs {G : Gh} {k : Nat} {z : List D} {zv : Value} (k0 : 0 < k) (hzs : zv.cells.size = k) (hzz : cellsD (.v zv) = z) (q : Nat) : VRs G (List.replicate q z).flatten (Builtin.zeroCells zv.cells q).toList := by
  have hzc := cellsD_ok (VR.v (G := G) zv)
  rw [hzz] at hzc
  have hzl : z.length = k := by rw [hzc.1, Array.length_toList, hzs]
  have hcell : ∀ j, j < q * k → (Builtin.zeroCells zv.cells q).toList[j]? = zv.cells.toList[j % k]? := fun j hj => by
    rw [← hzs] at hj ⊢
    simp only [Builtin.zeroCells, Array.toList_map, Array.toList_range, List.getElem?_map, List.getElem?_range hj, Option.map_some]
    have hlt : j % zv.cells.size < zv.cells.size := Nat.mod_lt _ (by omega)
    rw [Array.getElem?_toList, Array.getElem?_eq_getElem hlt, getElem!_pos zv.cells _ hlt]
  have hzlen : (Builtin.zeroCells zv.cells q).toList.length = q * k := by rw [Array.length_toList, size_zeroCells, hzs]
  have hfl : (List.replicate q z).flatten.length = q * k := by simp [List.length_flatten, hzl]
  refine ⟨by rw [hfl, hzlen], fun j d u q1 q2 => ?_⟩
  have hj : j < q * k := by rw [← hfl]; exact (List.getElem?_eq_some_iff.1 q1).1
  have hi' : j / k < q := Nat.div_lt_of_lt_mul (by rw [Nat.mul_comm]; exact hj)
  have hqq : j / k * k + j % k = j := by rw [Nat.mul_comm]; exact Nat.div_add_mod j k
  have hqz : j % k < z.length := by rw [hzl]; exact Nat.mod_lt _ k0
  have hg := flatten_get (k := k) (List.replicate q z) (j / k) (j % k) z z[j % k] (fun x hx => by rw [List.eq_of_mem_replicate hx]; exact hzl) (by rw [List.getElem?_replicate, if_pos hi']) (List.getElem?_eq_getElem hqz)
  rw [hqq, q1] at hg
  cases hg
  rw [hcell j hj] at q2
  exact hzc.2 _ _ u (List.getElem?_eq_getElem hqz) q2

section
variable {P : Program} {w0 : World} {n : Nat} {env : Env} {st st0 : St} {o : Oper} {K : D → St → Prop}

/-- A new block behind a draw, of old cells and new ones, and noughts. -/
theorem grown_full {G : Gh} {w : World} (h : Rel w0 G st w) {e k cp m : Nat} {z : List D} {zv : Value} (k0 : 0 < k) (hzs : zv.cells.size = k) (hzz : cellsD (.v zv) = z) (olds news : List Value) (cs : List D) (hv : VRs G cs (olds ++ news)) (h1 : ∀ u ∈ olds ++ news, u.oneCell' = true) (hz1 : ∀ u ∈ zv.cells.toList, u.oneCell' = true)
    (hl : (olds ++ news).length = m * k) (hcp : m ≤ cp) (hcm : cp ≤ maxLen) :
    ∃ G', G.le G' ∧ Rel w0 G' (st.setH G.nx (some (cs ++ (List.replicate (cp - m) z).flatten))) (w.drew.alloc (.cells (olds.toArray ++ news.toArray ++ Builtin.zeroCells zv.cells (cp - m)) e)) ∧ VR G' (.mrow G.nx 0 m cp) (.slice (some ⟨w.heap.size, 0, none⟩) m cp) := by
  let cl : List Value := olds ++ news ++ (Builtin.zeroCells zv.cells (cp - m)).toList
  have hzc : ∀ u ∈ (Builtin.zeroCells zv.cells (cp - m)).toList, u.oneCell' = true := fun u hu => by
    simp only [Builtin.zeroCells, Array.toList_map, Array.toList_range, List.mem_map, List.mem_range] at hu
    obtain ⟨q, hq, rfl⟩ := hu
    have hlt : q % zv.cells.size < zv.cells.size := Nat.mod_lt _ (by omega)
    rw [getElem!_pos zv.cells _ hlt]
    exact hz1 _ (by rw [Array.mem_toList_iff]; exact Array.getElem_mem hlt)
  have hvv : VRs G (cs ++ (List.replicate (cp - m) z).flatten) cl := VRs.append hv (zero_vrs k0 hzs hzz _)
  obtain ⟨G', hle, hrel, hnx, hrho⟩ := (h.drawn (w.drawn + 1)).own (w1 := w.drew.alloc (.cells (olds.toArray ++ news.toArray ++ Builtin.zeroCells zv.cells (cp - m)) e)) cl _ e (Nat.le_of_eq hvv.1) (fun u hu => by
      simp only [cl, List.mem_append] at hu
      rcases hu with hu | hu
      · exact h1 u (List.mem_append.2 hu)
      · exact hzc u hu) (fun j d u a b => hvv.2 j d u a b) (by show w.heap.push _ = w.heap.push _; congr 2; simp [cl]) rfl rfl rfl
  refine ⟨G', hle, hrel, ?_⟩
  have : G'.rho G.nx = w.heap.size := hrho
  rw [← this]
  exact .mrow G.nx 0 m cp (by rw [hnx]; exact Nat.lt_succ_self _) hcp hcm

/-- 'append(s, x...)': s is owned, with room or without, or nil. -/
theorem zv_sapp {t e k by_ tk m c i : Nat} {z : List D} {s x : Operand} {ob : Option Nat} {full cells : List D} {L : List (Option Nat × List D)} {ys : List (List D)} (hop : o.op = .call { callee := .builtin .append, args := #[s, x], argTypes := #[t, t] })
    (he : ElemOk P e k by_ z) (hz1 : ∀ d ∈ z, oneD d = true) (ht : P.underlying t = some (.slice e)) (hs : ev env s = some (orow ob m c)) (hS : Sep st0 st L) (hi : L[i]? = some (ob, full)) (hg : GRow ob full k m c cells) (hx : ev env x = some (.row ys k tk)) (hb : (m + ys.length) * by_ ≤ 140737488355328)
    (h : ∀ o' c' full' st', Sep st0 st' (L.set i (o', full')) → GRow o' full' k (m + ys.length) c' (cells ++ ys.flatten) → K (orow o' (m + ys.length) c') st') : ZVal P w0 n o env st K := by
  intro G w a hr her
  have hvs := ev_ok her hs
  have hvx := ev_ok her hx
  generalize hus : a.eval s = us at hvs
  generalize hux : a.eval x = ux at hvx
  have hrun : ∀ {v' w'}, (Builtin.append_ #[t, t] o.type #[us, ux]).run P w = .ok v' w' → (execOp a.eval o).run P w = .ok (.value v') w' := fun hq => by
    simp [execOp, hop, resolve, invoke, builtin, hus, hux, hq]
  have he' := he
  obtain ⟨⟨ti, zv, hti, hk, hby, hz, hzs, hzz⟩, k0, b0⟩ := he
  have hmax : m + ys.length ≤ 140737488355328 := Nat.le_trans (Nat.le_mul_of_pos_right _ b0) hb
  have hzone := zv_cells_one hzz hz1
  have hcl := hg.length
  -- nothing is added
  by_cases hy0 : ys = []
  · subst hy0
    simp only [List.length_nil, Nat.add_zero, List.flatten_nil, List.append_nil] at h
    have hsame : L.set i (ob, full) = L := by
      apply List.ext_getElem?; intro j; rw [List.getElem?_set]
      split
      · rename_i hj; subst hj; rw [if_pos (List.getElem?_eq_some_iff.1 hi).1, hi]
      · rfl
    have hK := h ob c full st (by rw [hsame]; exact hS) hg
    refine ⟨us, w, G, _, _, hrun ?_, .refl G, hr, hvs, hK⟩
    have hx0 : ∃ bx cx, ux = .slice bx 0 cx := by
      cases hvx with
      | row _ _ _ a2 nn c2 u hn => simp at hn; subst hn; exact ⟨_, _, rfl⟩
      | rowNil => exact ⟨_, _, rfl⟩
    obtain ⟨bx, cx, rfl⟩ := hx0
    cases ob with
    | none =>
      have := hvs.eq_v; subst this
      cases bx <;> simp [Builtin.append_, run_underlying ht, sizeOf, typeInfo, hti, Builtin.lenOf, Builtin.firstCells, loadCells, loadCellsFrom, storeCells]
    | some id =>
      cases hvs with
      | mrow _ _ _ _ hid hmc hm63 => cases bx <;> simp [Builtin.append_, run_underlying ht, sizeOf, typeInfo, hti, Builtin.lenOf, Builtin.firstCells, hmc, storeCells, loadCells, loadCellsFrom]
  have hy1 : 0 < ys.length := List.length_pos_iff.2 hy0
  cases hvx with
  | rowNil => exact absurd rfl hy0
  | row _ _ _ a2 nn c2 u hn hc2 hm63' hkk hcell h1 hvv htt =>
    obtain rfl : nn = ys.length := hn.symm
    obtain ⟨e1, e2, e3, e4, news, hf, hM⟩ := (VR.row (G := G) ys k tk a2 ys.length c2 u rfl hc2 hm63' hkk hcell h1 hvv htt).flat
    have hff := hf.flat k0
    have R := appRuns_slice (w := w) he' ht o.type a2 ys.length c2 news hf.len (fun j u hj => hr.mem _ _ (hM j u hj)) hf.one
    have hge := grownCap_ge w (m + ys.length) c e
    have hcm := grownCap_le_maxLen w (m + ys.length) c e (by unfold maxLen; omega)
    cases ob with
    | none =>
      have := hvs.eq_v; subst this
      have hc0 := hg.nil rfl
      have hm0 : m = 0 := by have := hg.room; omega
      subst hc0; subst hm0
      have hcells : cells = [] := by have := hg.length; simpa using this
      subst hcells
      have hq := R.grow none 0 0 [] zv ti hti hz (by simp [Builtin.firstCells, loadCells, loadCellsFrom]) (by omega) hb
      obtain ⟨G', hle, hrel, hv⟩ := grown_full (e := e) (cp := grownCap w (0 + ys.length) 0 e) (m := 0 + ys.length) hr k0 hzs hzz [] news ys.flatten (by simpa using hff) (fun u hu => hf.one u (by simpa using hu)) hzone (by rw [List.nil_append, hf.len, Nat.zero_add]) hge hcm
      have hw : some ((none : Option Nat), full) = L[i]? := hi.symm
      refine ⟨_, _, G', _, _, hrun (by rw [e1]; exact hq), hle, hrel, hv, h (some G.nx) _ _ _ (hS.swap hi hr.freshName _) ⟨?_, hge, fun e => (by cases e), ?_⟩⟩
      · have hzl : z.length = k := by rw [← hzs, ← hzz, (cellsD_ok (VR.v (G := G) zv)).1, Array.length_toList]
        rw [List.length_append, hff.1, hf.len, List.length_flatten]
        simp only [List.map_replicate, List.sum_replicate_nat, hzl]
        rw [← Nat.add_mul]
        congr 1
        omega
      · rw [List.nil_append, List.take_append_of_le_length (by rw [hff.1, hf.len, Nat.zero_add]; exact Nat.le_refl _), List.take_of_length_le (by rw [hff.1, hf.len, Nat.zero_add]; exact Nat.le_refl _)]
    | some id =>
      have hH := hS.at_ hi
      cases hvs with
      | mrow _ _ _ _ hid hmc hm63 =>
        obtain ⟨cc, e', hcc, hl, hc1, hcv⟩ := hr.ex id full hH
        have hmk : (m + ys.length) * k = m * k + ys.length * k := Nat.add_mul _ _ _
        have hfl := hg.len
        have hmc2 : m * k ≤ c * k := Nat.mul_le_mul_right _ hmc
        have htl : (cc.take (m * k)).length = m * k := by rw [List.length_take]; omega
        have hvtake : VRs G cells (cc.take (m * k)) := ⟨by rw [htl, hcl], fun j d u q1 q2 => by
          rw [← hg.cells] at q1
          rw [List.getElem?_take] at q1 q2
          split at q1
          · rename_i hj; rw [if_pos hj] at q2; exact hcv j d u q1 q2
          · cases q1⟩
        by_cases hroom : m + ys.length ≤ c
        · have hrk : (m + ys.length) * k ≤ c * k := Nat.mul_le_mul_right _ hroom
          have hq := R.room (G.rho id) m c cc.toArray e' hcc hroom (by rw [hf.len]; simp; omega)
          rw [← e1] at hq
          have hrel := hr.put (w1 := w.setRow (G.rho id) (cc.take (m * k) ++ news ++ cc.drop (m * k + news.length)).toArray) (cs' := cells ++ ys.flatten ++ full.drop ((m + ys.length) * k)) hH hcc (setRow_heap w _ cc.toArray _ e' _ hcc)
            (by rw [List.length_append, List.length_append, List.length_append, List.length_append, htl, hff.1, hf.len, hcl, List.length_drop, List.length_drop]; omega)
            (fun u hu => by
              simp only [List.mem_append] at hu
              rcases hu with (hu | hu) | hu
              · exact hc1 u (List.mem_of_mem_take hu)
              · exact hf.one u hu
              · exact hc1 u (List.mem_of_mem_drop hu))
            (by
              have hv := VRs.append hvtake hff
              intro j d u a b
              by_cases hj : j < (m + ys.length) * k
              · rw [List.getElem?_append_left (by rw [hv.1, List.length_append, htl, hf.len]; omega)] at a
                rw [List.getElem?_append_left (by rw [List.length_append, htl, hf.len]; omega)] at b
                exact hv.2 j d u a b
              · have el : (cells ++ ys.flatten).length = (m + ys.length) * k := by rw [hv.1, List.length_append, htl, hf.len]; omega
                have er : (cc.take (m * k) ++ news).length = (m + ys.length) * k := by rw [List.length_append, htl, hf.len]; omega
                rw [List.getElem?_append_right (by rw [el]; omega), el, List.getElem?_drop, Nat.add_sub_cancel' (by omega)] at a
                rw [List.getElem?_append_right (by rw [er]; omega), er, List.getElem?_drop, hf.len, show m * k + ys.length * k + (j - (m + ys.length) * k) = j by omega] at b
                exact hcv j d u a b)
            (fun q hq => setRow_other w _ q _ hq) (by simp) rfl rfl rfl
          have hel : (cells ++ ys.flatten).length = (m + ys.length) * k := by rw [List.length_append, hcl, hff.1, hf.len, hmk]
          refine ⟨_, _, G, _, _, hrun (by simpa using hq), .refl G, hrel, VR.mrow id 0 (m + ys.length) c hid hroom hm63, h (some id) c _ _ (hS.put hi _) ⟨?_, hroom, fun e => (by cases e), ?_⟩⟩
          · rw [List.length_append, hel, List.length_drop]; omega
          · rw [List.take_append_of_le_length (Nat.le_of_eq hel.symm), List.take_of_length_le (Nat.le_of_eq hel)]
        · have holds : ∀ j u, (cc.take (m * k))[j]? = some u → w.cell? ((⟨G.rho id, 0, none⟩ : Addr).add j) = some u := fun j u hj => by
            rw [List.getElem?_take] at hj
            split at hj
            · rw [add_plain, cell_heap hcc]; exact hj
            · cases hj
          have hq := R.grow (some ⟨G.rho id, 0, none⟩) m c (cc.take (m * k)) zv ti hti hz (by rw [hk]; exact run_firstCells_some (P := P) w.drew k m _ _ _ _ htl (by simpa using holds)) (by omega) hb
          have hel : (cells ++ ys.flatten).length = (m + ys.length) * k := by rw [List.length_append, hcl, hff.1, hf.len, hmk]
          obtain ⟨G', hle, hrel, hv⟩ := grown_full (e := e) (cp := grownCap w (m + ys.length) c e) (m := m + ys.length) hr k0 hzs hzz (cc.take (m * k)) news (cells ++ ys.flatten) (VRs.append hvtake hff) (fun u hu => by
            rcases List.mem_append.1 hu with hu | hu
            · exact hc1 u (List.mem_of_mem_take hu)
            · exact hf.one u hu) hzone (by rw [List.length_append, htl, hf.len, Nat.add_mul]) hge hcm
          refine ⟨_, _, G', _, _, hrun (by rw [e1]; exact hq), hle, hrel, hv, h (some G.nx) _ _ _ (hS.swap hi hr.freshName _) ⟨?_, hge, fun e => (by cases e), ?_⟩⟩
          · have hzl : z.length = k := by rw [← hzs, ← hzz, (cellsD_ok (VR.v (G := G) zv)).1, Array.length_toList]
            rw [List.length_append, hel, List.length_flatten]
            simp only [List.map_replicate, List.sum_replicate_nat, hzl]
            rw [← Nat.add_mul]
            congr 1
            omega
          · rw [List.take_append_of_le_length (Nat.le_of_eq hel.symm), List.take_of_length_le (Nat.le_of_eq hel)]
end
end Go.Proofs.Zm
