/- The framework's seventh part: append, make, literals: rows of the call's own. -/
import Derived.Test.YtpelekdimmfldaaZm6
namespace Go.Proofs.Zm
open Go.RowKit
set_option linter.unusedVariables false
set_option linter.unusedSimpArgs false

/-- The cells of a row in order. -/
structure Flat (G : Gh) (xs : List (List D)) (k : Nat) (us : List Value) : Prop where
  len : us.length = xs.length * k
  hk : ∀ (i : Nat) (x : List D), xs[i]? = some x → x.length = k
  one : ∀ u ∈ us, u.oneCell' = true
  vr : ∀ (i : Nat) (x : List D) (j : Nat) (d : D), xs[i]? = some x → x[j]? = some d → ∃ u, us[i * k + j]? = some u ∧ VR G d u

theorem Flat.mono {G G' : Gh} (hg : G.le G') {xs k us} (h : Flat G xs k us) : Flat G' xs k us :=
  ⟨h.len, h.hk, h.one, fun i x j d a b => let ⟨u, h1, h2⟩ := h.vr i x j d a b; ⟨u, h1, h2.mono hg⟩⟩
theorem Flat.nil (G : Gh) (k : Nat) : Flat G [] k [] := ⟨by simp, fun i x h => by simp at h, fun u h => by simp at h, fun i x j d h => by simp at h⟩
theorem Flat.append {G : Gh} {xs ys : List (List D)} {k : Nat} {us vs : List Value} (h : Flat G xs k us) (h' : Flat G ys k vs) : Flat G (xs ++ ys) k (us ++ vs) := by
  refine ⟨by simp [h.len, h'.len, Nat.add_mul], fun i x hx => ?_, fun u hu => ?_, fun i x j d hx hj => ?_⟩
  · by_cases hi : i < xs.length
    · rw [List.getElem?_append_left hi] at hx; exact h.hk i x hx
    · rw [List.getElem?_append_right (by omega)] at hx; exact h'.hk _ x hx
  · rcases List.mem_append.1 hu with h1 | h1
    · exact h.one u h1
    · exact h'.one u h1
  · by_cases hi : i < xs.length
    · rw [List.getElem?_append_left hi] at hx
      obtain ⟨u, h1, h2⟩ := h.vr i x j d hx hj
      exact ⟨u, by rw [List.getElem?_append_left (List.getElem?_eq_some_iff.1 h1).1]; exact h1, h2⟩
    · rw [List.getElem?_append_right (by omega)] at hx
      obtain ⟨u, h1, h2⟩ := h'.vr _ x j d hx hj
      have hle : xs.length * k ≤ i * k := Nat.mul_le_mul_right _ (by omega)
      refine ⟨u, ?_, h2⟩
      rw [List.getElem?_append_right (by rw [h.len]; omega), h.len]
      have : i * k + j - xs.length * k = (i - xs.length) * k + j := by rw [Nat.sub_mul]; omega
      rw [this]; exact h1
/-- One element. -/
theorem Flat.one1 {G : Gh} {cs : List D} {us : List Value} (h : VRs G cs us) (h1 : ∀ d ∈ cs, oneD d = true) : Flat G [cs] cs.length us := by
  refine ⟨by simp [h.1], fun i x hx => ?_, fun u hu => ?_, fun i x j d hx hj => ?_⟩
  · cases i <;> simp at hx; rw [← hx]
  · obtain ⟨j, hj⟩ := List.mem_iff_getElem?.1 hu
    have hlt : j < cs.length := by rw [h.1]; exact (List.getElem?_eq_some_iff.1 hj).1
    exact oneD_ok (h.2 j _ u (List.getElem?_eq_getElem hlt) hj) (h1 _ (List.getElem_mem hlt))
  · cases i <;> simp at hx
    subst hx
    have hlt : j < us.length := by rw [← h.1]; exact (List.getElem?_eq_some_iff.1 hj).1
    exact ⟨us[j], by simp [hlt], h.2 j d _ hj (List.getElem?_eq_getElem hlt)⟩

/-- Any value of one cell. -/
def aCell : Value := .bool false

theorem VR.flat {G : Gh} {xs : List (List D)} {k t : Nat} {a : Addr} {n c : Nat} (h : VR G (.row xs k t) (.slice (some a) n c)) :
    n = xs.length ∧ n ≤ c ∧ c ≤ maxLen ∧ (t ≠ 0 → t < G.nx ∧ a = ⟨(G.tau t).1, 0, none⟩ ∧ (G.tau t).2.1 = n * k ∧ (G.tau t).2.2 = c * k) ∧
    ∃ us, Flat G xs k us ∧ ∀ j u, us[j]? = some u → G.M (a.add j) = some u := by
  cases h with
  | row _ _ _ _ _ _ u hn hc hm63 hk hm h1 hv ht =>
    refine ⟨hn.symm, hc, hm63, ht, (List.range (n * k)).map (fun q => u (q / k) (q % k)), ⟨by simp [hn], hk, fun v hv => ?_, fun i x j d hx hj => ?_⟩, fun j v hj => ?_⟩
    · obtain ⟨q, _, rfl⟩ := List.mem_map.1 hv; exact h1 _ _
    · have hi : i < n := by rw [← hn]; exact (List.getElem?_eq_some_iff.1 hx).1
      have hjk : j < k := by rw [← hk i x hx]; exact (List.getElem?_eq_some_iff.1 hj).1
      have hlt : i * k + j < n * k := by
        have : (i + 1) * k ≤ n * k := Nat.mul_le_mul_right _ hi
        rw [Nat.add_mul] at this; omega
      have h1 : (i * k + j) / k = i := by rw [Nat.mul_comm, Nat.mul_add_div (by omega)]; rw [Nat.div_eq_of_lt hjk]; rfl
      have h2 : (i * k + j) % k = j := by rw [Nat.mul_comm, Nat.mul_add_mod]; exact Nat.mod_eq_of_lt hjk
      refine ⟨u i j, ?_, hv i x j d hx hj⟩
      rw [List.getElem?_map, List.getElem?_range hlt]
      simp [h1, h2]
    · have hlt : j < n * k := by have := (List.getElem?_eq_some_iff.1 hj).1; simpa using this
      have hk0 : 0 < k := by rcases Nat.eq_zero_or_pos k with h | h; (subst h; simp at hlt); exact h
      rw [List.getElem?_map, List.getElem?_range hlt] at hj
      cases hj
      have hd : j / k < n := Nat.div_lt_of_lt_mul (by rw [Nat.mul_comm]; exact hlt)
      have := hm (j / k) (j % k) hd (Nat.mod_lt _ hk0)
      rwa [Nat.div_add_mod'] at this

/-- Back. -/
theorem VR.ofFlat {G : Gh} {xs : List (List D)} {k t c : Nat} {a : Addr} {us : List Value} (h : Flat G xs k us) (hM : ∀ j u, us[j]? = some u → G.M (a.add j) = some u) (hc : xs.length ≤ c) (hm : c ≤ maxLen)
    (ht : t ≠ 0 → t < G.nx ∧ a = ⟨(G.tau t).1, 0, none⟩ ∧ (G.tau t).2.1 = xs.length * k ∧ (G.tau t).2.2 = c * k) : VR G (.row xs k t) (.slice (some a) xs.length c) := by
  refine .row xs k t a xs.length c (fun i j => (us[i * k + j]?).getD aCell) rfl hc hm h.hk (fun i j hi hj => ?_) (fun i j => ?_) (fun i x j d hx hj => ?_) ht
  · have hlt : i * k + j < us.length := by
      rw [h.len]
      have : (i + 1) * k ≤ xs.length * k := Nat.mul_le_mul_right _ hi
      rw [Nat.add_mul] at this; omega
    rw [List.getElem?_eq_getElem hlt]
    exact hM _ _ (List.getElem?_eq_getElem hlt)
  · cases hh : us[i * k + j]? with
    | none => rfl
    | some u => exact h.one u (List.mem_iff_getElem?.2 ⟨_, hh⟩)
  · obtain ⟨u, h1, h2⟩ := h.vr i x j d hx hj
    rw [h1]; exact h2

theorem VR.ofFlat' {G : Gh} {xs : List (List D)} {k n c : Nat} {a : Addr} {us : List Value} (h : Flat G xs k us) (hM : ∀ j u, us[j]? = some u → G.M (a.add j) = some u) (hn : n = xs.length) (hc : n ≤ c) (hm : c ≤ maxLen) :
    VR G (.row xs k 0) (.slice (some a) n c) := by subst hn; exact VR.ofFlat h hM hc hm (fun h => absurd rfl h)

theorem add_plain (b j : Nat) : (⟨b, 0, none⟩ : Addr).add j = ⟨b, j, none⟩ := by unfold Addr.add; split <;> simp_all

section
variable {P : Program} {w0 : World} {n : Nat} {env : Env} {st : St} {o : Oper}

/-- In place, whatever type the block was made of. -/
theorem run_append_room' (w : World) (t ty e e' : TypeId) (i : TypeInfo) (ht : P.underlying t = some (.slice e)) (hi : P.info? e = some i)
    (g sLen sCap : Nat) (cur : Array Value) (hg : w.heap[g]? = some (.cells cur e' (0, 0)))
    (a : Addr) (m c : Nat) (news : List Value) (hl : news.length = m * i.size) (hnews : ∀ j u, news[j]? = some u → w.cell? (a.add j) = some u) (h1 : ∀ u ∈ news, u.oneCell' = true)
    (hroom : sLen + m ≤ sCap) (hfit : sLen * i.size + news.length ≤ cur.size) :
    (Builtin.append_ #[t, t] ty #[.slice (some ⟨g, 0, none⟩) sLen sCap, .slice (some a) m c]).run P w =
      .ok (.slice (some ⟨g, 0, none⟩) (sLen + m) sCap) (w.setRow g (cur.toList.take (sLen * i.size) ++ news ++ cur.toList.drop (sLen * i.size + news.length)).toArray) := by
  have hf := run_firstCells_some (P := P) w i.size m a m c news hl hnews
  have hst := run_storeCells_at P g (sLen * i.size) e' news 0 cur w hg (by simpa using hfit) h1
  simp only [Nat.add_zero] at hst
  simp [Builtin.append_, run_underlying ht, sizeOf, typeInfo, hi, Builtin.lenOf, hroom, hf, Addr.add_lit, hst]

/-- What the laws ask of an element's type. -/
structure ElemOk (P : Program) (e k by_ : Nat) (z : List D) : Prop where
  ex : ∃ i zv, P.info? e = some i ∧ i.size = k ∧ i.bytes = by_ ∧ i.zero = some zv ∧ zv.cells.size = k ∧ cellsD (.v zv) = z
  k0 : 0 < k
  b0 : 0 < by_

theorem setRow_self {w : World} {g : Nat} {cur : Array Value} {e : TypeId} {fr : Nat × Nat} (h : w.heap[g]? = some (.cells cur e fr)) : w.setRow g cur = w := by
  have : (w.setRow g cur).heap = w.heap := by
    unfold World.setRow
    apply Array.ext
    · simp
    · intro i h1 h2
      simp only [Array.getElem_modify]
      split
      · rename_i hi
        subst hi
        have : w.heap[g] = .cells cur e fr := by rw [Array.getElem?_eq_getElem h2] at h; exact Option.some.inj h
        rw [this]
      · rfl
  cases w
  simp only [World.setRow] at this ⊢
  rw [this]

/-- How 'append' runs at a second argument: what is appended are the cells 'news'. -/
structure AppRuns (P : Program) (w : World) (at_ : Array TypeId) (ty : TypeId) (xv : Value) (e k by_ m : Nat) (news : List Value) : Prop where
  none : ∀ (base : Option Addr) (n c : Nat), m = 0 → n ≤ c → (Builtin.append_ at_ ty #[.slice base n c, xv]).run P w = .ok (.slice base n c) w
  room : ∀ (g sLen sCap : Nat) (cur : Array Value) (e' : TypeId), w.heap[g]? = some (.cells cur e' (0, 0)) → sLen + m ≤ sCap → sLen * k + news.length ≤ cur.size →
    (Builtin.append_ at_ ty #[.slice (some ⟨g, 0, Option.none⟩) sLen sCap, xv]).run P w = .ok (.slice (some ⟨g, 0, Option.none⟩) (sLen + m) sCap) (w.setRow g (cur.toList.take (sLen * k) ++ news ++ cur.toList.drop (sLen * k + news.length)).toArray)
  grow : ∀ (base : Option Addr) (sLen sCap : Nat) (olds : List Value) (z : Value) (i : TypeInfo), P.info? e = some i → i.zero = some z → (Builtin.firstCells i.size sLen (.slice base sLen sCap)).run P w.drew = .ok olds.toArray w.drew → sCap < sLen + m →
    (sLen + m) * by_ ≤ 140737488355328 → (Builtin.append_ at_ ty #[.slice base sLen sCap, xv]).run P w = .ok (.slice (some ⟨w.heap.size, 0, Option.none⟩) (sLen + m) (grownCap w (sLen + m) sCap e))
      (w.drew.alloc (.cells (olds.toArray ++ news.toArray ++ Builtin.zeroCells z.cells (grownCap w (sLen + m) sCap e - (sLen + m))) e))

/-- A slice's elements appended. -/
theorem appRuns_slice {w : World} {t e k by_ : Nat} {z : List D} (he : ElemOk P e k by_ z) (ht : P.underlying t = some (.slice e)) (ty : TypeId) (a2 : Addr) (m c2 : Nat) (news : List Value) (hl : news.length = m * k)
    (hnews : ∀ j u, news[j]? = some u → w.cell? (a2.add j) = some u) (h1 : ∀ u ∈ news, u.oneCell' = true) : AppRuns P w #[t, t] ty (.slice (some a2) m c2) e k by_ m news := by
  obtain ⟨⟨i, zv, hi, hk, hby, hz, hzs, _⟩, k0, b0⟩ := he
  refine ⟨fun base n c hm hc => ?_, fun g sLen sCap cur e' hg hroom hfit => ?_, fun base sLen sCap olds z' i' hi' hz' ho hg hb => ?_⟩
  · subst hm
    cases base <;> simp [Builtin.append_, run_underlying ht, sizeOf, typeInfo, hi, Builtin.lenOf, Builtin.firstCells, loadCells, loadCellsFrom, hc, storeCells]
  · have := run_append_room' (P := P) w t ty e e' i ht hi g sLen sCap cur hg a2 m c2 news (by rw [hl, hk]) hnews h1 hroom (by rw [hk]; exact hfit)
    rwa [hk] at this
  · rw [hi] at hi'; cases hi'
    rw [hz] at hz'; cases hz'
    have hmax : sLen + m ≤ 140737488355328 := Nat.le_trans (Nat.le_mul_of_pos_right _ b0) hb
    have hfit := growslice_fits hg (by rw [← hby] at hb; exact hb)
    have hn : ¬ (sLen + m ≤ sCap) := by omega
    have h63' : ¬ (9223372036854775807 < ((sLen : Int) + (m : Int))) := by omega
    have h48' : ¬ (281474976710656 < Builtin.nextslicecap (sLen + m) sCap * i.bytes) := by omega
    have hf := run_firstCells_some (P := P) w.drew i.size m a2 m c2 news (by rw [hl, hk]) (by simpa using hnews)
    simp [Builtin.append_, run_underlying ht, sizeOf, typeInfo, zeroValue, hi, hz, Builtin.lenOf, hn, h63', h48', Question.forced, hf, ho, newRow, grownCap]
    congr 2
    rw [← List.append_toArray, Array.append_assoc]

/-- Noughts appended. -/
theorem appRuns_zeros {w : World} {t ti e k by_ : Nat} {kk kx : IntKind} {zv : Value} {i : TypeInfo} (hi : P.info? e = some i) (hk : i.size = k) (hby : i.bytes = by_) (hz : i.zero = some zv) (hzs : zv.cells.size = k) (k0 : 0 < k) (b0 : 0 < by_)
    (ht : P.underlying t = some (.slice e)) (hti : P.underlying ti = some (.int kk)) (ty : TypeId) (m : Nat) (hm : m * by_ ≤ 140737488355328)
    (h1 : ∀ u ∈ (Builtin.zeroCells zv.cells m).toList, u.oneCell' = true) : AppRuns P w #[t, ti] ty (.int kx m) e k by_ m (Builtin.zeroCells zv.cells m).toList := by
  have hmm : m ≤ 140737488355328 := Nat.le_trans (Nat.le_mul_of_pos_right _ b0) hm
  have hw : IntKind.i64.wrap (m : Int) = m := by rw [IntKind.wrap_i64]; omega
  have hneg : ¬ ((m : Int) < 0) := by omega
  have hbig : ¬ (281474976710656 < (m : Int) * (i.bytes : Int)) := by rw [← Int.natCast_mul, hby]; omega
  have hsn : i.size ≠ 0 := by omega
  have hl : (Builtin.zeroCells zv.cells m).toList.length = m * i.size := by rw [Array.length_toList, size_zeroCells, hzs, hk]
  have hna : (Builtin.zeroCells zv.cells m).toList.toArray = Builtin.zeroCells zv.cells m := by simp
  refine ⟨fun base n c hm0 hc => ?_, fun g sLen sCap cur e' hg hroom hfit => ?_, fun base sLen sCap olds z' i' hi' hz' ho hg hb => ?_⟩
  · subst hm0
    have hw0 : IntKind.i64.wrap 0 = 0 := by rw [IntKind.wrap_i64]; rfl
    cases base <;> simp [Builtin.append_, run_underlying ht, run_underlying hti, sizeOf, typeInfo, hi, asInt, asIntOf, hw0, hc, storeCells]
  · by_cases hm0 : m = 0
    · subst hm0
      have hw0 : IntKind.i64.wrap 0 = 0 := by rw [IntKind.wrap_i64]; rfl
      have hz0 : (Builtin.zeroCells zv.cells 0).toList = [] := by simp [Builtin.zeroCells]
      have hself : w.setRow g cur = w := setRow_self hg
      rw [hz0]
      simp only [Nat.add_zero, List.append_nil, List.length_nil, List.take_append_drop, Array.toArray_toList, hself]
      have hroom' : sLen ≤ sCap := by omega
      simp [Builtin.append_, run_underlying ht, run_underlying hti, sizeOf, typeInfo, hi, asInt, asIntOf, hw0, hroom', storeCells]
    · have hns : ¬ (m * i.size = 0) := Nat.mul_ne_zero hm0 hsn
      have hst := run_storeCells_at P g (sLen * i.size) e' (Builtin.zeroCells zv.cells m).toList 0 cur w hg (by rw [← hk] at hfit; simpa using hfit) h1
      simp only [Nat.add_zero] at hst
      simp [Builtin.append_, run_underlying ht, run_underlying hti, sizeOf, typeInfo, zeroValue, hi, hz, asInt, asIntOf, hw, hneg, hbig, hroom, hns, hm0, hsn, Addr.add_lit, hst, hk]
      rw [if_neg (by rw [← hk]; exact hns)]
      rw [hk] at hst
      rw [hst]
      simp
  · rw [hi] at hi'; cases hi'
    rw [hz] at hz'; cases hz'
    have hmax : sLen + m ≤ 140737488355328 := Nat.le_trans (Nat.le_mul_of_pos_right _ b0) hb
    have hfit := growslice_fits hg (by rw [← hby] at hb; exact hb)
    have hn : ¬ (sLen + m ≤ sCap) := by omega
    have h63' : ¬ (9223372036854775807 < ((sLen : Int) + (m : Int))) := by omega
    have h48' : ¬ (281474976710656 < Builtin.nextslicecap (sLen + m) sCap * i.bytes) := by omega
    by_cases hm0 : m = 0
    · subst hm0
      have hw0 : IntKind.i64.wrap 0 = 0 := by rw [IntKind.wrap_i64]; rfl
      have hz0 : Builtin.zeroCells zv.cells 0 = #[] := by simp [Builtin.zeroCells]
      simp only [Nat.add_zero] at hn h63' h48' ⊢
      have h63'' : ¬ (9223372036854775807 < (sLen : Int)) := by omega
      simp [Builtin.append_, run_underlying ht, run_underlying hti, sizeOf, typeInfo, zeroValue, hi, hz, asInt, asIntOf, hw0, hn, h63'', h48', Question.forced, ho, newRow, grownCap, hz0]
    · have hns : ¬ (m * i.size = 0) := Nat.mul_ne_zero hm0 hsn
      simp [Builtin.append_, run_underlying ht, run_underlying hti, sizeOf, typeInfo, zeroValue, hi, hz, asInt, asIntOf, hw, hneg, hbig, hns, hm0, hsn, hn, h63', h48', Question.forced, ho, newRow, grownCap]

/-- New cells behind a row: whatever becomes of its block. -/
theorem append_main {G : Gh} {w : World} {at_ : Array TypeId} {xv : Value} {e k by_ tk : Nat} {z : List D} (he : ElemOk P e k by_ z) (ty : TypeId) (h : Rel w0 G st w) {xs ys : List (List D)} {v : Value}
    (hv : VR G (.row xs k tk) v) (hT : st.T tk = true) (news : List Value) (hf : Flat G ys k news)
    (R : AppRuns P w at_ ty xv e k by_ ys.length news)
    (hb : (xs.length + ys.length) * by_ ≤ 140737488355328) :
    ∃ v' w' G', (Builtin.append_ at_ ty #[v, xv]).run P w = .ok v' w' ∧ G.le G' ∧ Rel w0 G' ((st.setT tk false).setT G.nx true) w' ∧ VR G' (.row (xs ++ ys) k G.nx) v' := by
  obtain ⟨⟨i, zv, hi, hk, hby, hz, hzs, _⟩, k0, b0⟩ := he
  have hmax : xs.length + ys.length ≤ 140737488355328 := Nat.le_trans (Nat.le_mul_of_pos_right _ b0) hb
  have htk0 : tk ≠ 0 := fun e0 => by rw [e0, h.T0] at hT; cases hT
  have hnlen : news.length = ys.length * i.size := by rw [hf.len, hk]
  -- what a new block comes to
  have hgrown : ∀ (olds : List Value) (w1 : World) (cp : Nat), Flat G xs k olds → xs.length + ys.length ≤ cp → cp ≤ maxLen → w1 = w.drew.alloc (.cells (olds.toArray ++ news.toArray ++ Builtin.zeroCells zv.cells (cp - (xs.length + ys.length))) e) →
      ∃ G', G.le G' ∧ Rel w0 G' ((st.setT tk false).setT G.nx true) w1 ∧ VR G' (.row (xs ++ ys) k G.nx) (.slice (some ⟨w.heap.size, 0, none⟩) (xs.length + ys.length) cp) := by
    intro olds w1 cp hfo hcp hcm hw1
    have hrel : Rel w0 G (st.setT tk false) w.drew := (h.drawn (w.drawn + 1)).forget (fun id cs e1 => e1) (fun t e1 => by
      by_cases htt : t = tk
      · simp [htt] at e1
      · simpa [htt] using e1)
    let cl : List Value := olds ++ news ++ (Builtin.zeroCells zv.cells (cp - (xs.length + ys.length))).toList
    have hfl := hfo.append hf
    have hlen : (olds ++ news).length = (xs.length + ys.length) * k := by rw [hfl.len]; simp
    have hcl : cl.length = cp * k := by
      simp only [cl, List.length_append, Array.length_toList, size_zeroCells, hzs]
      rw [← List.length_append, hlen, ← Nat.add_mul]; congr 1; omega
    obtain ⟨G', hle, hr, hnx, htau, hM⟩ := hrel.fresh (w1 := w1) cl e ((xs.length + ys.length) * k) (by rw [hcl]; exact Nat.mul_le_mul_right _ hcp)
      (by rw [hw1]; show w.heap.push _ = w.heap.push _; congr 2; simp [cl]) (by rw [hw1]; rfl) (by rw [hw1]; rfl) (by rw [hw1]; rfl)
    refine ⟨G', hle, hr, ?_⟩
    have hlen2 : (xs ++ ys).length = xs.length + ys.length := by simp
    rw [← hlen2]
    refine VR.ofFlat (hfl.mono hle) (fun j u hj => ?_) (by omega) hcm (fun _ => ⟨by rw [hnx]; exact Nat.lt_succ_self _, by rw [htau]; rfl, by rw [htau, hlen2], by rw [htau, hcl]⟩)
    rw [add_plain]
    have hjl := (List.getElem?_eq_some_iff.1 hj).1
    exact hM j u (by rw [← hlen]; exact hjl) (by simp only [cl]; rw [List.getElem?_append_left hjl]; exact hj)
  cases hv with
  | rowNil =>
    by_cases hm : ys.length = 0
    · have hy : ys = [] := List.eq_nil_of_length_eq_zero hm
      subst hy
      have hn : news = [] := List.eq_nil_of_length_eq_zero (by rw [hnlen]; simp)
      subst hn
      obtain ⟨G', hle, hr, hnx, h0⟩ := (h.forget (s' := st.setT tk false) (fun id cs e1 => e1) (fun t e1 => by
        by_cases htt : t = tk
        · simp [htt] at e1
        · simpa [htt] using e1)).nilRight 0
      exact ⟨.slice none 0 0, w, G', R.none none 0 0 rfl (Nat.le_refl _), hle, hr, .rowNil _ _ (.inr (by rw [hnx]; exact Nat.lt_succ_self _))⟩
    · have hr := R.grow none 0 0 [] zv i hi hz (by simp [Builtin.firstCells, loadCells, loadCellsFrom]) (by omega) (by simpa using hb)
      have e0 : ([] : List Value).toArray = #[] := rfl
      simp only [Nat.zero_add, e0, Array.empty_append, List.nil_append] at hr
      have hge := grownCap_ge w ys.length 0 e
      have hcm := grownCap_le_maxLen w ys.length 0 e (by unfold maxLen; omega)
      obtain ⟨G', hle, hrel, hvr⟩ := hgrown [] _ (grownCap w ys.length 0 e) (Flat.nil G k) (by simpa using hge) hcm rfl
      refine ⟨_, _, G', hr, hle, ?_, ?_⟩
      · simpa using hrel
      · simpa using hvr
  | row _ _ _ a nn c u hn hc hm63 hkk hcell h1 hvv htt =>
    obtain ⟨e1, e2, e3, e4, us, hfx, hMx⟩ := (VR.row (G := G) xs k tk a nn c u hn hc hm63 hkk hcell h1 hvv htt).flat
    obtain ⟨hlt, rfl, hused, htot⟩ := e4 htk0
    subst hn
    by_cases hroom : xs.length + ys.length ≤ c
    · -- there is room
      by_cases hc0 : c = 0
      · -- a row without cells
        have hx0 : xs = [] := List.eq_nil_of_length_eq_zero (by omega)
        have hy0 : ys = [] := List.eq_nil_of_length_eq_zero (by omega)
        subst hx0; subst hy0; subst hc0
        have hn : news = [] := List.eq_nil_of_length_eq_zero (by rw [hnlen]; simp)
        subst hn
        obtain ⟨G', hle, hr, hnx, h0⟩ := (h.forget (s' := st.setT tk false) (fun id cs e1 => e1) (fun t e1 => by
          by_cases htt : t = tk
          · simp [htt] at e1
          · simpa [htt] using e1)).nilRight (G.tau tk).1
        refine ⟨.slice (some ⟨(G.tau tk).1, 0, none⟩) 0 0, w, G', R.none (some ⟨(G.tau tk).1, 0, none⟩) 0 0 rfl (Nat.le_refl _), hle, hr, ?_⟩
        · refine VR.ofFlat (xs := []) (k := k) (us := []) (Flat.nil G' k) (fun j u h => by simp at h) (Nat.le_refl _) (by simp) (fun _ => ⟨by rw [hnx]; exact Nat.lt_succ_self _, by rw [h0], by rw [h0]; simp, by rw [h0]; simp⟩)
      · have htot0 : (G.tau tk).2.2 ≠ 0 := by rw [htot]; exact Nat.mul_ne_zero hc0 (by omega)
        obtain ⟨cur, e', hcur, hcurlen⟩ := h.tk tk hT htot0
        have hcl : c * k ≤ cur.length := by rw [← htot]; exact hcurlen
        have hfit : xs.length * i.size + news.length ≤ cur.length := by rw [hnlen, hk, ← Nat.add_mul]; exact Nat.le_trans (Nat.mul_le_mul_right _ hroom) hcl
        have hr := R.room (G.tau tk).1 xs.length c cur.toArray e' hcur hroom (by rw [hk] at hfit; simpa using hfit)
        simp only [] at hr
        let c' : List Value := cur.take (xs.length * k) ++ news ++ cur.drop (xs.length * k + news.length)
        have hc'l : c'.length = cur.length := by simp only [c', List.length_append, List.length_take, List.length_drop]; rw [hk] at hfit; omega
        have hcx : cur.take (xs.length * k) = us := by
          apply List.ext_getElem?
          intro j
          rw [List.getElem?_take]
          split
          · rename_i hj
            have hju : j < us.length := by rw [hfx.len]; exact hj
            have h2 := h.mem _ _ (hMx j _ (List.getElem?_eq_getElem hju))
            rw [add_plain, cell_heap hcur] at h2
            rw [h2, List.getElem?_eq_getElem hju]
          · rename_i hj
            rw [List.getElem?_eq_none (by rw [hfx.len]; omega)]
        have hw' : (w.setRow (G.tau tk).1 c'.toArray).heap[(G.tau tk).1]? = some (.cells c'.toArray e' (0, 0)) := setRow_heap w _ cur.toArray _ e' _ hcur
        obtain ⟨G', hle, hrel, hnx, htau, hM⟩ := h.grow (w1 := w.setRow (G.tau tk).1 c'.toArray) hT (b := (G.tau tk).1) (used := xs.length * k) (total := c * k) (by rw [← hused, ← htot]) (by rw [← htot]; exact htot0)
          cur c' e' hcur hw' hc'l (fun j hj => by
            simp only [c', List.append_assoc]
            rw [List.getElem?_append_left (by simp; have := hfit; rw [hk] at this; omega), List.getElem?_take, if_pos hj])
          (fun q hq => setRow_other w _ q _ hq) (by simp) rfl rfl rfl ((xs.length + ys.length) * k) (Nat.mul_le_mul_right _ (by omega)) (Nat.mul_le_mul_right _ hroom)
        refine ⟨.slice (some ⟨(G.tau tk).1, 0, none⟩) (xs.length + ys.length) c, _, G', ?_, hle, hrel, ?_⟩
        · rw [hr]
        · have hfl := hfx.append hf
          have hlen2 : (xs ++ ys).length = xs.length + ys.length := by simp
          rw [← hlen2]
          refine VR.ofFlat (hfl.mono hle) (fun j u hj => ?_) (by omega) hm63 (fun _ => ⟨by rw [hnx]; exact Nat.lt_succ_self _, by rw [htau], by rw [htau, hlen2], by rw [htau]⟩)
          rw [add_plain]
          have hjl := (List.getElem?_eq_some_iff.1 hj).1
          refine hM j u (by rw [hfl.len, hlen2] at hjl; exact hjl) ?_
          simp only [c', hcx]
          rw [List.getElem?_append_left hjl]; exact hj
    · -- a new block
      have holds : ∀ j u, us[j]? = some u → w.cell? ((⟨(G.tau tk).1, 0, none⟩ : Addr).add j) = some u := fun j u hj => h.mem _ _ (hMx j u hj)
      have hr := R.grow (some ⟨(G.tau tk).1, 0, none⟩) xs.length c us zv i hi hz (by rw [hk]; exact run_firstCells_some (P := P) w.drew k xs.length _ _ _ us hfx.len (by simpa using holds)) (by omega) hb
      have hge := grownCap_ge w (xs.length + ys.length) c e
      have hcm := grownCap_le_maxLen w (xs.length + ys.length) c e (by unfold maxLen; omega)
      obtain ⟨G', hle, hrel, hvr⟩ := hgrown us _ (grownCap w (xs.length + ys.length) c e) hfx hge hcm rfl
      exact ⟨_, _, G', hr, hle, hrel, hvr⟩

theorem St.setT_back {s : St} {t : Nat} (h : s.T t = false) : (s.setT t true).setT t false = s := by
  unfold St.setT
  congr 1
  funext i
  by_cases hi : i = t
  · subst hi; simp [h]
  · simp [hi]

/-- 'append(s, x...)': s a row with its right. -/
theorem zv_append {t e k by_ tk tk2 : Nat} {z : List D} {s x : Operand} {xs ys : List (List D)} {K : D → St → Prop} (hop : o.op = .call { callee := .builtin .append, args := #[s, x], argTypes := #[t, t] })
    (he : ElemOk P e k by_ z) (ht : P.underlying t = some (.slice e)) (hs : ev env s = some (.row xs k tk)) (hT : st.T tk = true) (hx : ev env x = some (.row ys k tk2)) (hb : (xs.length + ys.length) * by_ ≤ 140737488355328)
    (h : ∀ t', st.T t' = false → t' ≠ 0 → K (.row (xs ++ ys) k t') ((st.setT tk false).setT t' true)) : ZVal P w0 n o env st K := by
  intro G w a hr her
  have hvs := ev_ok her hs
  have hvx := ev_ok her hx
  generalize hus : a.eval s = us at hvs
  generalize hux : a.eval x = ux at hvx
  have hrun : ∀ {v' w'}, (Builtin.append_ #[t, t] o.type #[us, ux]).run P w = .ok v' w' → (execOp a.eval o).run P w = .ok (.value v') w' := fun hq => by
    simp [execOp, hop, resolve, invoke, builtin, hus, hux, hq]
  have fin : ∀ (a2 : Addr) (c2 : Nat) (news : List Value), Flat G ys k news → (∀ j u, news[j]? = some u → w.cell? (a2.add j) = some u) → ux = .slice (some a2) ys.length c2 →
      ∃ v w' G' d st', (execOp a.eval o).run P w = .ok (.value v) w' ∧ G.le G' ∧ Rel w0 G' st' w' ∧ VR G' d v ∧ K d st' := fun a2 c2 news hf hn e1 => by
    obtain ⟨v', w', G', h1, h2, h3, h4⟩ := append_main he o.type hr hvs hT news hf (appRuns_slice he ht o.type a2 ys.length c2 news hf.len hn hf.one) hb
    rw [← e1] at h1
    exact ⟨v', w', G', _, _, hrun h1, h2, h3, h4, h _ (hr.nxT _ (Nat.le_refl _)) (by have := hr.nx0; omega)⟩
  cases hvx with
  | row _ _ _ a2 nn c u hn hc hm63 hkk hcell h1 hvv htt =>
    obtain ⟨e1, e2, e3, e4, news, hf, hM⟩ := (VR.row (G := G) ys k tk2 a2 nn c u hn hc hm63 hkk hcell h1 hvv htt).flat
    exact fin a2 c news hf (fun j u hj => hr.mem _ _ (hM j u hj)) (by rw [e1])
  | rowNil =>
    -- nothing is appended
    obtain ⟨⟨i, zv, hi, hk, hby, hz, hzs, _⟩, k0, b0⟩ := he
    have htk0 : tk ≠ 0 := fun e0 => by rw [e0, hr.T0] at hT; cases hT
    have hf0 : ∀ (q : Nat), (st.setT tk false).T q = true → st.T q = true := fun q e1 => by
      by_cases htt : q = tk
      · simp [htt] at e1
      · simpa [htt] using e1
    have hK := h G.nx (hr.nxT _ (Nat.le_refl _)) (by have := hr.nx0; omega)
    rw [List.append_nil] at hK
    cases hvs with
    | rowNil =>
      obtain ⟨G', hle, hrel, hnx, h0⟩ := (hr.forget (s' := st.setT tk false) (fun id cs e1 => e1) hf0).nilRight 0
      exact ⟨.slice none 0 0, w, G', _, _, hrun (by simp [Builtin.append_, run_underlying ht, sizeOf, typeInfo, hi, Builtin.lenOf, Builtin.firstCells]), hle, hrel, .rowNil _ _ (.inr (by rw [hnx]; exact Nat.lt_succ_self _)), hK⟩
    | row _ _ _ a1 nn c u hn hc hm63 hkk hcell h1 hvv htt =>
      obtain ⟨e1, e2, e3, e4, us1, hf1, hM1⟩ := (VR.row (G := G) xs k tk a1 nn c u hn hc hm63 hkk hcell h1 hvv htt).flat
      obtain ⟨hlt, rfl, hused, htot⟩ := e4 htk0
      have hrun' := hrun (v' := .slice (some ⟨(G.tau tk).1, 0, none⟩) nn c) (w' := w) (by simp [Builtin.append_, run_underlying ht, sizeOf, typeInfo, hi, Builtin.lenOf, Builtin.firstCells, hc, storeCells])
      by_cases hc0 : c = 0
      · subst hc0
        have hx0 : xs = [] := List.eq_nil_of_length_eq_zero (by omega)
        subst hx0
        obtain ⟨G', hle, hrel, hnx, h0⟩ := (hr.forget (s' := st.setT tk false) (fun id cs e1 => e1) hf0).nilRight (G.tau tk).1
        have hn0 : nn = 0 := by simpa using e1
        subst hn0
        exact ⟨_, w, G', _, _, hrun', hle, hrel, VR.ofFlat (xs := []) (k := k) (us := []) (Flat.nil G' k) (fun j u h => by simp at h) (Nat.le_refl _) (by simp) (fun _ => ⟨by rw [hnx]; exact Nat.lt_succ_self _, by rw [h0], by rw [h0]; simp, by rw [h0]; simp⟩), hK⟩
      · have htot0 : (G.tau tk).2.2 ≠ 0 := by rw [htot]; exact Nat.mul_ne_zero hc0 (by omega)
        obtain ⟨cur, e', hcur, hcurlen⟩ := hr.tk tk hT htot0
        obtain ⟨G', hle, hrel, hnx, htau, hM⟩ := hr.grow (w1 := w) hT (b := (G.tau tk).1) (used := nn * k) (total := c * k) (by rw [← hused, ← htot]) (by rw [← htot]; exact htot0)
          cur cur e' hcur hcur rfl (fun j hj => rfl) (fun q hq => rfl) (Nat.le_refl _) rfl rfl rfl (nn * k) (Nat.le_refl _) (Nat.mul_le_mul_right _ hc)
        refine ⟨_, w, G', _, _, hrun', hle, hrel, ?_, hK⟩
        rw [e1] at hc ⊢
        refine VR.ofFlat (hf1.mono hle) (fun j u hj => hle.M _ _ (hM1 j u hj)) hc hm63 (fun _ => ⟨by rw [hnx]; exact Nat.lt_succ_self _, by rw [htau], by rw [htau, e1], by rw [htau]⟩)

/-- The same, s the literal nil. -/
theorem zv_append_nil {t e k by_ tk2 : Nat} {z : List D} {s x : Operand} {ys : List (List D)} {K : D → St → Prop} (hop : o.op = .call { callee := .builtin .append, args := #[s, x], argTypes := #[t, t] })
    (he : ElemOk P e k by_ z) (ht : P.underlying t = some (.slice e)) (hs : ev env s = some (.v (.slice none 0 0))) (hx : ev env x = some (.row ys k tk2)) (hb : ys.length * by_ ≤ 140737488355328)
    (h : ∀ t', st.T t' = false → t' ≠ 0 → K (.row ys k t') (st.setT t' true)) : ZVal P w0 n o env st K := by
  intro G w a hr her
  have hvs := (ev_ok her hs).eq_v
  have hvx := ev_ok her hx
  generalize hux : a.eval x = ux at hvx
  have hrun : ∀ {v' w'}, (Builtin.append_ #[t, t] o.type #[.slice none 0 0, ux]).run P w = .ok v' w' → (execOp a.eval o).run P w = .ok (.value v') w' := fun hq => by
    simp [execOp, hop, resolve, invoke, builtin, hvs, hux, hq]
  obtain ⟨G1, hle1, hr1, hnx1, h01⟩ := hr.nilRight 0
  have hback : (st.setT G.nx true).setT G.nx false = st := St.setT_back (hr.nxT _ (Nat.le_refl _))
  have hfresh := hr.nxT
  have h0 := hr.nx0
  cases hvx with
  | row _ _ _ a2 nn c u hn hc hm63 hkk hcell h1 hvv htt =>
    obtain ⟨e1, e2, e3, e4, news, hf, hM⟩ := (VR.row (G := G) ys k tk2 a2 nn c u hn hc hm63 hkk hcell h1 hvv htt).flat
    obtain ⟨v', w', G', q1, q2, q3, q4⟩ := append_main he o.type hr1 (xs := []) (v := .slice none 0 0) (.rowNil k G.nx (.inr (by rw [hnx1]; exact Nat.lt_succ_self _))) (by simp) news (hf.mono hle1) (appRuns_slice he ht o.type a2 ys.length c news hf.len (fun j u hj => hr.mem _ _ (hM j u hj)) hf.one) (by simpa using hb)
    rw [hback, hnx1] at q3
    rw [hnx1] at q4
    rw [← e1] at q1
    exact ⟨v', w', G', _, _, hrun q1, hle1.trans q2, q3, q4, by simpa using h _ (hfresh _ (Nat.le_succ _)) (by omega)⟩
  | rowNil =>
    obtain ⟨⟨i, zv, hi, hk, hby, hz, hzs, _⟩, k0, b0⟩ := he
    exact ⟨.slice none 0 0, w, G1, _, _, hrun (by simp [Builtin.append_, run_underlying ht, sizeOf, typeInfo, hi, Builtin.lenOf, Builtin.firstCells]), hle1, hr1, .rowNil _ _ (.inr (by rw [hnx1]; exact Nat.lt_succ_self _)), h _ (hfresh _ (Nat.le_refl _)) (by omega)⟩

/-- 'append(s, make([]T, m)...)'. -/
theorem zv_append_zeros {t ti e k by_ tk : Nat} {kk kx : IntKind} {z : List D} {s x : Operand} {xs : List (List D)} {m : Int} {K : D → St → Prop} (hop : o.op = .call { callee := .builtin .append, args := #[s, x], argTypes := #[t, ti] })
    (he : ElemOk P e k by_ z) (hz1 : ∀ d ∈ z, oneD d = true) (ht : P.underlying t = some (.slice e)) (hti : P.underlying ti = some (.int kk)) (hs : ev env s = some (.row xs k tk)) (hT : st.T tk = true) (hx : ev env x = some (.v (.int kx m))) (h0 : 0 ≤ m)
    (hb : (xs.length + m.toNat) * by_ ≤ 140737488355328)
    (h : ∀ t', st.T t' = false → t' ≠ 0 → K (.row (xs ++ List.replicate m.toNat z) k t') ((st.setT tk false).setT t' true)) : ZVal P w0 n o env st K := by
  intro G w a hr her
  have hvs := ev_ok her hs
  have hvx := (ev_ok her hx).eq_v
  generalize hus : a.eval s = us at hvs
  obtain ⟨⟨i, zv, hi, hk, hby, hz, hzs, hzz⟩, k0, b0⟩ := he
  obtain ⟨m', rfl⟩ := Int.eq_ofNat_of_zero_le h0
  simp only [Int.toNat_natCast] at hb h
  have hrun : ∀ {v' w'}, (Builtin.append_ #[t, ti] o.type #[us, .int kx (m' : Int)]).run P w = .ok v' w' → (execOp a.eval o).run P w = .ok (.value v') w' := fun hq => by
    simp [execOp, hop, resolve, invoke, builtin, hus, hvx, hq]
  have hzc := cellsD_ok (VR.v (G := G) zv)
  rw [hzz] at hzc
  have hzl : z.length = k := by rw [hzc.1, Array.length_toList, hzs]
  have hcell : ∀ q, q < m' * k → (Builtin.zeroCells zv.cells m').toList[q]? = zv.cells.toList[q % k]? := fun q hq => by
    rw [← hzs] at hq ⊢
    simp only [Builtin.zeroCells, Array.toList_map, Array.toList_range, List.getElem?_map, List.getElem?_range hq, Option.map_some]
    have hlt : q % zv.cells.size < zv.cells.size := Nat.mod_lt _ (by omega)
    rw [Array.getElem?_toList, Array.getElem?_eq_getElem hlt, getElem!_pos zv.cells _ hlt]
  have h1 : ∀ u ∈ (Builtin.zeroCells zv.cells m').toList, u.oneCell' = true := fun u hu => by
    obtain ⟨q, hq⟩ := List.mem_iff_getElem?.1 hu
    have hql : q < m' * k := by have := (List.getElem?_eq_some_iff.1 hq).1; rw [Array.length_toList, size_zeroCells, hzs] at this; exact this
    rw [hcell q hql] at hq
    have hqz : q % k < z.length := by rw [hzl]; exact Nat.mod_lt _ k0
    exact oneD_ok (hzc.2 (q % k) _ u (List.getElem?_eq_getElem hqz) hq) (hz1 _ (List.getElem_mem hqz))
  have hflat : Flat G (List.replicate m' z) k (Builtin.zeroCells zv.cells m').toList := by
    refine ⟨by rw [Array.length_toList, size_zeroCells, hzs]; simp, fun i x hx => ?_, h1, fun i x j d hx hj => ?_⟩
    · rw [List.getElem?_replicate] at hx
      split at hx
      · cases hx; exact hzl
      · cases hx
    · rw [List.getElem?_replicate] at hx
      split at hx
      · rename_i hi
        cases hx
        have hjk : j < k := by rw [← hzl]; exact (List.getElem?_eq_some_iff.1 hj).1
        have hlt : i * k + j < m' * k := by
          have : (i + 1) * k ≤ m' * k := Nat.mul_le_mul_right _ hi
          rw [Nat.add_mul] at this; omega
        have h2 : (i * k + j) % k = j := by rw [Nat.mul_comm, Nat.mul_add_mod]; exact Nat.mod_eq_of_lt hjk
        have hjc : j < zv.cells.toList.length := by rw [Array.length_toList, hzs]; exact hjk
        refine ⟨zv.cells.toList[j], ?_, hzc.2 j d _ hj (List.getElem?_eq_getElem hjc)⟩
        rw [hcell _ hlt, h2, List.getElem?_eq_getElem hjc]
      · cases hx
  have hmb : m' * by_ ≤ 140737488355328 := Nat.le_trans (Nat.mul_le_mul_right _ (Nat.le_add_left _ _)) hb
  obtain ⟨v', w', G', q1, q2, q3, q4⟩ := append_main ⟨⟨i, zv, hi, hk, hby, hz, hzs, hzz⟩, k0, b0⟩ o.type hr hvs hT _ hflat
    (by simpa using appRuns_zeros (w := w) (kx := kx) hi hk hby hz hzs k0 b0 ht hti o.type m' hmb h1) (by simpa using hb)
  exact ⟨v', w', G', _, _, hrun q1, q2, q3, q4, h _ (hr.nxT _ (Nat.le_refl _)) (by have := hr.nx0; omega)⟩

end
end Go.Proofs.Zm
