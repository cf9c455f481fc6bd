/- The framework's eighth part: literals, make, bytes and strings, the least and the greatest. -/
import Derived.Test.YtpelekdimmfldaaZm7
import Derived.Laws.IdiomStrings
import Derived.Laws.MakeOwn
import Derived.Lib.SlBytesConst
namespace Go.Proofs.Zm
open Go.RowKit
set_option linter.unusedVariables false
set_option linter.unusedSimpArgs false

theorem foldl_set : ∀ (l : List Value) (j0 off : Nat) (cs : Array Value), off + j0 + l.length ≤ cs.size →
    (l.zipIdx j0).foldl (fun cs (p : Value × Nat) => cs.setIfInBounds (off + p.2) p.1) cs = (cs.toList.take (off + j0) ++ l ++ cs.toList.drop (off + j0 + l.length)).toArray
  | [], j0, off, cs, h => by simp
  | v :: l, j0, off, cs, h => by
    simp only [List.length_cons] at h
    simp only [List.zipIdx_cons, List.foldl_cons]
    rw [foldl_set l (j0 + 1) off _ (by simp; omega)]
    have hlt : off + j0 < cs.toList.length := by simp; omega
    apply congrArg List.toArray
    simp only [Array.toList_setIfInBounds]
    rw [List.drop_set_of_lt (by omega)]
    have h1 : (cs.toList.set (off + j0) v).take (off + (j0 + 1)) = cs.toList.take (off + j0) ++ [v] := by
      have : off + (j0 + 1) = off + j0 + 1 := by omega
      rw [this, List.take_succ_eq_append_getElem (by simpa using hlt), List.take_set_of_le (Nat.le_refl _)]
      simp
    rw [h1]
    simp only [List.length_cons, List.append_assoc, List.singleton_append]
    have : off + (j0 + 1) + l.length = off + j0 + (l.length + 1) := by omega
    rw [this]

theorem fill_all (k : Nat) : ∀ (vs : List Value) (s : Nat) (pre rest : List Value) (cells : Array Value), (∀ v ∈ vs, v.cells.size = k) → cells.toList = pre ++ rest → pre.length = s * k → rest.length = vs.length * k →
    Instr.fill (fun i => some (i * k, k)) cells ((vs.zipIdx s).map fun p => (p.2, p.1)) = some (pre ++ vs.flatMap (·.cells.toList)).toArray
  | [], s, pre, rest, cells, _, h1, _, h3 => by
    have : rest = [] := List.eq_nil_of_length_eq_zero (by simpa using h3)
    subst this
    simp [Instr.fill, ← h1]
  | v :: vs, s, pre, rest, cells, h0, h1, h2, h3 => by
    have hv : v.cells.size = k := h0 v (by simp)
    have hvl : v.cells.toList.length = k := by rw [Array.length_toList, hv]
    have hsz : cells.size = pre.length + rest.length := by rw [← Array.length_toList, h1, List.length_append]
    have h3' : rest.length = vs.length * k + k := by rw [h3]; simp [Nat.add_mul]
    simp only [List.zipIdx_cons, List.map_cons]
    unfold Instr.fill
    simp only []
    have hc : ¬ (v.cells.size ≠ k || s * k + v.cells.size > cells.size) = true := by simp [hv]; omega
    rw [if_neg hc]
    have hfold : v.cells.zipIdx.foldl (fun cs (p : Value × Nat) => cs.setIfInBounds (s * k + p.2) p.1) cells = ((pre ++ v.cells.toList) ++ rest.drop k).toArray := by
      rw [← Array.foldl_toList, Array.toList_zipIdx, foldl_set _ 0 (s * k) cells (by rw [hvl]; omega)]
      rw [h1, Nat.add_zero, ← h2, List.take_left, hvl]
      have : List.drop (pre.length + k) (pre ++ rest) = rest.drop k := by
        rw [List.drop_append, List.drop_eq_nil_of_le (by omega)]
        simp
      rw [this]
    have := fill_all k vs (s + 1) (pre ++ v.cells.toList) (rest.drop k) ((pre ++ v.cells.toList) ++ rest.drop k).toArray (fun u hu => h0 u (by simp [hu])) rfl (by rw [List.length_append, hvl, h2, Nat.add_mul]; omega) (by rw [List.length_drop, h3']; omega)
    rw [← hfold] at this
    rw [this]
    simp

section
variable {P : Program} {w0 : World} {n : Nat} {env : Env} {st : St} {o : Oper}

/-- A slice literal whose elements are all told. -/
theorem zv_buildSlice {t e k by_ len : Nat} {z : List D} {xs : List Operand} {ds : List D} {K : D → St → Prop} (hop : o.op = .buildSlice t len (xs.zipIdx.map fun p => (p.2, p.1)).toArray) (hlen : xs.length = len)
    (he : ElemOk P e k by_ z) (ht : P.underlying t = some (.slice e)) (hx : evs env xs = some ds) (hk : ∀ d ∈ ds, (cellsD d).length = k ∧ ∀ c ∈ cellsD d, oneD c = true) (hsmall : len * k ≤ 2 ^ 24)
    (h : ∀ t', st.T t' = false → t' ≠ 0 → K (.row (ds.map cellsD) k t') (st.setT t' true)) : ZVal P w0 n o env st K := by
  intro G w a hr her
  obtain ⟨⟨i, zv, hi, hik, hby, hz, hzs, hzz⟩, k0, b0⟩ := he
  have hvs := evs_ok her hx
  have hdl : ds.length = len := by rw [hvs.1, List.length_map, hlen]
  have hcs : ∀ v ∈ xs.map a.eval, v.cells.size = k := fun v hv => by
    obtain ⟨j, hj⟩ := List.mem_iff_getElem?.1 hv
    have hlt : j < ds.length := by rw [hvs.1]; exact (List.getElem?_eq_some_iff.1 hj).1
    have := cellsD_ok (hvs.2 j _ v (List.getElem?_eq_getElem hlt) hj)
    rw [← Array.length_toList, ← this.1]; exact (hk _ (List.getElem_mem hlt)).1
  have hparts : ((xs.zipIdx.map fun p => (p.2, p.1)).toArray.map fun (p : Nat × Operand) => (p.1, a.eval p.2)).toList = ((xs.map a.eval).zipIdx 0).map fun p => (p.2, p.1) := by
    simp [List.zipIdx_map, Function.comp_def]
  have hcellsFlat : ∀ (ds : List D) (vs : List Value), VRs G ds vs → (∀ d ∈ ds, (cellsD d).length = k ∧ ∀ c ∈ cellsD d, oneD c = true) → Flat G (ds.map cellsD) k (vs.flatMap (·.cells.toList)) := by
    intro ds
    induction ds with
    | nil => intro vs hv _; have : vs = [] := List.eq_nil_of_length_eq_zero hv.1.symm; subst this; exact Flat.nil G k
    | cons d ds ih =>
      intro vs hv hk
      cases vs with
      | nil => have := hv.1; simp at this
      | cons v vs =>
        have h1 := cellsD_ok (hv.2 0 d v rfl rfl)
        have h2 := Flat.one1 h1 (hk d (by simp)).2
        rw [(hk d (by simp)).1] at h2
        have h3 := ih vs ⟨by have := hv.1; simpa using this, fun j d' u' a b => hv.2 (j + 1) d' u' (by simpa using a) (by simpa using b)⟩ (fun d' hd => hk d' (by simp [hd]))
        simpa using h2.append h3
  have hflat := hcellsFlat ds _ hvs hk
  by_cases hpos : len * i.size = 0
  · have hl0 : len = 0 := by rcases Nat.mul_eq_zero.1 hpos with h | h; exact h; omega
    subst hl0
    have hx0 : xs = [] := List.eq_nil_of_length_eq_zero hlen
    subst hx0
    have hd0 : ds = [] := List.eq_nil_of_length_eq_zero hdl
    subst hd0
    have hrun : (execOp a.eval o).run P w = .ok (.value (.slice (some ⟨w.heap.size, 0, none⟩) 0 0)) (w.alloc (.cells #[] e)) := by
      simp [execOp, hop, Instr.buildSlice, run_underlying ht, sizeOf, typeInfo, hi, Instr.fill, newRow, Array.eq_empty_of_size_eq_zero (show (Array.range 0).size = 0 by simp)]
    obtain ⟨G', hle, hrel, hnx, htau, hM⟩ := hr.fresh (w1 := w.alloc (.cells #[] e)) [] e 0 (Nat.le_refl _) rfl rfl rfl rfl
    refine ⟨_, _, G', _, _, hrun, hle, hrel, ?_, h _ (hr.nxT _ (Nat.le_refl _)) (by have := hr.nx0; omega)⟩
    exact VR.ofFlat (xs := []) (k := k) (us := []) (Flat.nil G' k) (fun j u h => by simp at h) (Nat.le_refl _) (by simp) (fun _ => ⟨by rw [hnx]; exact Nat.lt_succ_self _, by rw [htau], by rw [htau]; simp, by rw [htau]; simp⟩)
  · have hfill := fill_all k (xs.map a.eval) 0 [] (((Array.range (len * k)).map (zv.cells[· % zv.cells.size]!)).toList) ((Array.range (len * k)).map (zv.cells[· % zv.cells.size]!)) hcs rfl (by simp) (by simp [hlen])
    have hrun : (execOp a.eval o).run P w = .ok (.value (.slice (some ⟨w.heap.size, 0, none⟩) len len)) (w.alloc (.cells ((xs.map a.eval).flatMap (·.cells.toList)).toArray e)) := by
      have hsm : ¬ (len * i.size > 2 ^ 24) := by rw [hik]; omega
      have hb : (Instr.buildSlice t len ((xs.zipIdx.map fun p => (p.2, p.1)).toArray.map fun (p : Nat × Operand) => (p.1, a.eval p.2))).run P w = .ok (.slice (some ⟨w.heap.size, 0, none⟩) len len) (w.alloc (.cells ((xs.map a.eval).flatMap (·.cells.toList)).toArray e)) := by
        unfold Instr.buildSlice
        simp only [Sem.run_bind, run_underlying ht, Result.andThen_ok, sizeOf, typeInfo, run_program, hi, Sem.run_pure, hik]
        rw [if_neg (by omega)]
        rw [hik] at hpos
        simp only [Sem.run_bind, Sem.run_pure, Result.andThen_ok, if_neg hpos, zeroValue, typeInfo, run_program, hi, hz]
        rw [hparts, hfill]
        simp [newRow]
      simp only [execOp, hop, Sem.run_bind]
      rw [hb]; rfl
    have hfl : ((xs.map a.eval).flatMap (·.cells.toList)).length = len * k := by rw [hflat.len, List.length_map, hdl]
    obtain ⟨G', hle, hrel, hnx, htau, hM⟩ := hr.fresh (w1 := w.alloc (.cells ((xs.map a.eval).flatMap (·.cells.toList)).toArray e)) _ e (len * k) (by rw [hfl]; exact Nat.le_refl _) rfl rfl rfl rfl
    refine ⟨_, _, G', _, _, hrun, hle, hrel, ?_, h _ (hr.nxT _ (Nat.le_refl _)) (by have := hr.nx0; omega)⟩
    have hl2 : (ds.map cellsD).length = len := by rw [List.length_map, hdl]
    have hmx : len ≤ maxLen := by
      have : len * 1 ≤ len * k := Nat.mul_le_mul_left _ k0
      simp only [maxLen]; omega
    have := VR.ofFlat (c := len) (t := G.nx) (hflat.mono hle) (fun j u hj => by rw [add_plain]; exact hM j u (by rw [← hfl]; exact (List.getElem?_eq_some_iff.1 hj).1) hj) (by rw [hl2]; exact Nat.le_refl _) hmx (fun _ => ⟨by rw [hnx]; exact Nat.lt_succ_self _, by rw [htau], by rw [htau, hl2], by rw [htau, hfl]⟩)
    rw [hl2] at this
    exact this

/-- make([]T, m), with room for c: only read, or appended to. -/
theorem zv_make {t e k by_ : Nat} {z : List D} {x y : Operand} {kx ky : IntKind} {m c : Int} {K : D → St → Prop} (hop : o.op = .makeSlice t x y) (he : ElemOk P e k by_ z) (hz1 : ∀ d ∈ z, oneD d = true) (ht : P.underlying t = some (.slice e))
    (hx : ev env x = some (.v (.int kx m))) (hy : ev env y = some (.v (.int ky c))) (h0 : 0 ≤ m) (hmc : m ≤ c) (hb : by_ * c.toNat ≤ 281474976710656)
    (h : ∀ t', st.T t' = false → t' ≠ 0 → K (.row (List.replicate m.toNat z) k t') (st.setT t' true)) : ZVal P w0 n o env st K := by
  intro G w a hr her
  obtain ⟨⟨i, zv, hi, hik, hby, hz, hzs, hzz⟩, k0, b0⟩ := he
  have ex := (ev_ok her hx).eq_v
  have ey := (ev_ok her hy).eq_v
  obtain ⟨c', rfl⟩ := Int.eq_ofNat_of_zero_le (show 0 ≤ c by omega)
  obtain ⟨m', rfl⟩ := Int.eq_ofNat_of_zero_le h0
  simp only [Int.toNat_natCast] at hb h
  have hcb : c' ≤ 281474976710656 := Nat.le_trans (Nat.le_mul_of_pos_left _ b0) hb
  have hzc := cellsD_ok (VR.v (G := G) zv)
  rw [hzz] at hzc
  have hzl : z.length = k := by rw [hzc.1, Array.length_toList, hzs]
  have hrun0 := run_make (P := P) w t e i zv ht hi hz kx ky (m' : Int) (c' : Int) h0 hmc (by rw [hby, ← Int.natCast_mul]; omega) (by omega)
  simp only [Int.toNat_natCast, hik] at hrun0
  have hrun : (execOp a.eval o).run P w = .ok (.value (.slice (some ⟨w.heap.size, 0, none⟩) m' c')) (w.alloc (.cells (madeCells zv.cells (c' * k)) e)) := by
    simp only [execOp, hop, ex, ey, Sem.run_bind, hrun0]; rfl
  have hcell : ∀ q, q < c' * k → (madeCells zv.cells (c' * k)).toList[q]? = zv.cells.toList[q % k]? := fun q hq => by
    simp only [madeCells, Array.toList_map, Array.toList_range, List.getElem?_map, List.getElem?_range hq, Option.map_some]
    have hlt : q % zv.cells.size < zv.cells.size := Nat.mod_lt _ (by omega)
    rw [Array.getElem?_toList, ← hzs, Array.getElem?_eq_getElem hlt, getElem!_pos zv.cells _ hlt]
  have hml : (madeCells zv.cells (c' * k)).toList.length = c' * k := by simp [madeCells]
  have hmck : m' * k ≤ c' * k := Nat.mul_le_mul_right _ (by omega)
  have hflat : Flat G (List.replicate m' z) k ((madeCells zv.cells (c' * k)).toList.take (m' * k)) := by
    refine ⟨by rw [List.length_take, hml, List.length_replicate]; omega, fun i x hx => ?_, fun u hu => ?_, fun i x j d hx hj => ?_⟩
    · rw [List.getElem?_replicate] at hx
      split at hx
      · cases hx; exact hzl
      · cases hx
    · obtain ⟨q, hq⟩ := List.mem_iff_getElem?.1 hu
      rw [List.getElem?_take] at hq
      split at hq
      · rename_i hql
        rw [hcell q (by omega)] at hq
        have hqz : q % k < z.length := by rw [hzl]; exact Nat.mod_lt _ k0
        exact oneD_ok (hzc.2 (q % k) _ u (List.getElem?_eq_getElem hqz) hq) (hz1 _ (List.getElem_mem hqz))
      · cases hq
    · rw [List.getElem?_replicate] at hx
      split at hx
      · rename_i hi
        cases hx
        have hjk : j < k := by rw [← hzl]; exact (List.getElem?_eq_some_iff.1 hj).1
        have hlt : i * k + j < m' * k := by
          have : (i + 1) * k ≤ m' * k := Nat.mul_le_mul_right _ hi
          rw [Nat.add_mul] at this; omega
        have h2 : (i * k + j) % k = j := by rw [Nat.mul_comm, Nat.mul_add_mod]; exact Nat.mod_eq_of_lt hjk
        have hjc : j < zv.cells.toList.length := by rw [Array.length_toList, hzs]; exact hjk
        refine ⟨zv.cells.toList[j], ?_, hzc.2 j d _ hj (List.getElem?_eq_getElem hjc)⟩
        rw [List.getElem?_take, if_pos hlt, hcell _ (by omega), h2, List.getElem?_eq_getElem hjc]
      · cases hx
  obtain ⟨G', hle, hrel, hnx, htau, hM⟩ := hr.fresh (w1 := w.alloc (.cells (madeCells zv.cells (c' * k)) e)) (madeCells zv.cells (c' * k)).toList e (m' * k) (by rw [hml]; exact hmck) (by show w.heap.push _ = w.heap.push _; congr 2) rfl rfl rfl
  refine ⟨_, _, G', _, _, hrun, hle, hrel, ?_, h _ (hr.nxT _ (Nat.le_refl _)) (by have := hr.nx0; omega)⟩
  have hl2 : (List.replicate m' z).length = m' := by simp
  have := VR.ofFlat (c := c') (t := G.nx) (hflat.mono hle) (fun j u hj => by
    rw [add_plain]
    rw [List.getElem?_take] at hj
    split at hj
    · rename_i hjl; exact hM j u hjl hj
    · cases hj) (by rw [hl2]; omega) (by simp only [maxLen]; omega) (fun _ => ⟨by rw [hnx]; exact Nat.lt_succ_self _, by rw [htau], by rw [htau, hl2], by rw [htau, hml]⟩)
  rw [hl2] at this
  exact this

/-- Bytes, as a row's elements. -/
def bytesD (l : List UInt8) : List (List D) := l.map fun b => [.v (.int .u8 (b.toNat : Int))]
@[simp] theorem bytesD_length (l : List UInt8) : (bytesD l).length = l.length := by simp [bytesD]
@[simp] theorem bytesD_append (l m : List UInt8) : bytesD (l ++ m) = bytesD l ++ bytesD m := by simp [bytesD]
@[simp] theorem bytesD_nil : bytesD [] = [] := rfl
theorem bytesD_take (l : List UInt8) (k : Nat) : (bytesD l).take k = bytesD (l.take k) := by simp [bytesD, List.map_take]
theorem bytesD_drop (l : List UInt8) (k : Nat) : (bytesD l).drop k = bytesD (l.drop k) := by simp [bytesD, List.map_drop]
theorem bytesD_getD (l : List UInt8) (k : Nat) (h : k < l.length) : (bytesD l).getD k [] = [.v (.int .u8 ((l[k]).toNat : Int))] := by
  rw [getD_in (by simpa using h)]; simp [bytesD]

/-- string(b). -/
theorem zp_toStr {t u e : TypeId} {x : Operand} {l : List UInt8} {tk : Nat} (hop : o.op = .convert t u x) (ht : P.underlying t = some (.slice e)) (he : P.underlying e = some (.int .u8)) (hu : P.underlying u = some .string)
    (hx : ev env x = some (.row (bytesD l) 1 tk)) : ZPure P o env (.v (.string ⟨l.toArray⟩)) := fun G n a her => by
  have hv := ev_ok her hx
  generalize hux : a.eval x = ux at hv
  refine ⟨_, .v _, fun w hw => ?_⟩
  have hrun : ∀ {v' w'}, (convert t u ux).run P w = .ok v' w' → (execOp a.eval o).run P w = .ok (.value v') w' := fun hq => by
    simp [execOp, hop, hux, hq]
  cases l with
  | nil =>
    cases hv with
    | rowNil => exact hrun (run_convert_bytes_nil w t e ht he 0 0 u hu)
    | row _ _ _ a1 nn c u1 hn hc hm63 hkk hcell h1 hvv htt =>
      have : nn = 0 := by simpa using hn.symm
      subst this
      have := run_convert_bytes_back (P := P) w t u e a1 c [] ht he hu (fun j hj => by simp at hj)
      exact hrun (by simpa using this)
  | cons b l =>
    cases hv with
    | row _ _ _ a1 nn c u1 hn hc hm63 hkk hcell h1 hvv htt =>
      have hn' : nn = (b :: l).length := by simpa using hn.symm
      subst hn'
      exact hrun (run_convert_bytes_back (P := P) w t u e a1 c (b :: l) ht he hu (fun j hj => by
        have h2 := hw _ _ (hcell j 0 hj (by omega))
        rw [Nat.mul_one, Nat.add_zero] at h2
        rw [h2]
        have h3 := hvv j [.v (.int .u8 ((b :: l)[j].toNat : Int))] 0 _ (by simp only [bytesD, List.getElem?_map, List.getElem?_eq_getElem hj, Option.map_some]) rfl
        rw [h3.eq_v]))

/-- A literal of bytes that came of a string: it may not be appended to in place any more. -/
theorem zv_conv_bytes {t e : TypeId} {x : Operand} {xs : List (List D)} {k tk : Nat} {K : D → St → Prop} (hop : o.op = .convert t t x) (ht : P.underlying t = some (.slice e)) (he : P.underlying e = some (.int .u8)) (hx : ev env x = some (.row xs k tk)) (hT : st.T tk = true)
    (hk : 0 < k) (hne : xs ≠ []) (h : K (.row xs k 0) (st.setT tk false)) : ZVal P w0 n o env st K := by
  intro G w a hr her
  have hv := ev_ok her hx
  generalize hux : a.eval x = ux at hv
  have htk0 : tk ≠ 0 := fun e0 => by rw [e0, hr.T0] at hT; cases hT
  cases hv with
  | rowNil => exact absurd rfl hne
  | row _ _ _ a1 nn c u1 hn hc hm63 hkk hcell h1 hvv htt =>
    obtain ⟨e1, e2, e3, e4, us, hf, hM⟩ := (VR.row (G := G) xs k tk a1 nn c u1 hn hc hm63 hkk hcell h1 hvv htt).flat
    obtain ⟨hlt, rfl, hused, htot⟩ := e4 htk0
    have hc0 : c ≠ 0 := by have : 0 < xs.length := List.length_pos_iff.2 hne; omega
    have htot0 : (G.tau tk).2.2 ≠ 0 := by rw [htot]; exact Nat.mul_ne_zero hc0 (by omega)
    obtain ⟨cur, e', hcur, hcurlen⟩ := hr.tk tk hT htot0
    have hB := hr.tkB tk hT htot0
    have hbl : (G.tau tk).1 < w.heap.size := (Array.getElem?_eq_some_iff.1 hcur).1
    -- the world behind it
    let w1 := w.freeze ⟨(G.tau tk).1, cur.length, none⟩ 1
    have hw1 : ∀ q, q ≠ (G.tau tk).1 → w1.heap[q]? = w.heap[q]? := fun q hq => by
      simp only [w1, World.freeze]
      rw [if_neg (by decide)]
      simp [Array.getElem?_modify, Ne.symm hq]
    have hw2 : ∃ fr, w1.heap[(G.tau tk).1]? = some (.cells cur.toArray e' fr) := by
      simp only [w1, World.freeze]
      rw [if_neg (by decide)]
      simp [Array.getElem?_modify, hcur]
    obtain ⟨fr, hw2⟩ := hw2
    have hsz : w1.heap.size = w.heap.size := by simp only [w1, World.freeze]; rw [if_neg (by decide)]; simp
    have hcells : ∀ a, w1.cell? a = w.cell? a := fun a => by
      by_cases hb : a.block = (G.tau tk).1
      · simp only [World.cell?, hb, hw2, hcur]
      · exact cell_same (hw1 _ hb)
    have hrun : (execOp a.eval o).run P w = .ok (.value (.slice (some ⟨(G.tau tk).1, 0, none⟩) nn c)) w1 := by
      have hsh : w.shape? (G.tau tk).1 = some (e', cur.length) := by simp [World.shape?, hcur]
      simp [execOp, hop, hux, convert, run_underlying ht, run_underlying he, markStringish, hsh, w1]
    have hT' : ∀ q, (st.setT tk false).T q = true → q ≠ tk ∧ st.T q = true := fun q e5 => by
      by_cases hq : q = tk
      · simp [hq] at e5
      · simp [hq] at e5; exact ⟨hq, e5⟩
    refine ⟨_, w1, G, _, _, hrun, .refl G, ?_, VR.ofFlat' hf hM e1 e2 e3, h⟩
    exact {
      mem := fun a u hu => by rw [hcells]; exact hr.mem a u hu
      nxH := hr.nxH
      nxT := fun q hq => by
        have : q ≠ tk := by omega
        simp [this]; exact hr.nxT q hq
      nx0 := hr.nx0
      T0 := by simp; intro _; exact hr.T0
      ex := fun id cs e5 => by
        obtain ⟨c2, e6, q1, q2, q3, q4⟩ := hr.ex id cs e5
        exact ⟨c2, e6, (hw1 _ (hr.tkE tk id cs hT htot0 e5).symm).trans q1, q2, q3, q4⟩
      exM := hr.exM
      exB := hr.exB
      exI := hr.exI
      tk := fun q e5 e6 => by
        obtain ⟨hne2, e7⟩ := hT' q e5
        obtain ⟨c2, e8, q1, q2⟩ := hr.tk q e7 e6
        exact ⟨c2, e8, (hw1 _ (fun he => hne2 (hr.tkI q tk e7 hT e6 htot0 he))).trans q1, q2⟩
      tkM := fun q a u e5 => hr.tkM q a u (hT' q e5).2
      tkB := fun q e5 => hr.tkB q (hT' q e5).2
      tkI := fun q q' e5 e6 => hr.tkI q q' (hT' q e5).2 (hT' q' e6).2
      tkE := fun q id cs e5 => hr.tkE q id cs (hT' q e5).2
      below := ⟨by simp only [w1, World.freeze]; rw [if_neg (by decide)]; exact hr.below.os, by simp only [w1, World.freeze]; rw [if_neg (by decide)]; exact hr.below.tape,
        by simp only [w1, World.freeze]; rw [if_neg (by decide)]; exact hr.below.output, by rw [hsz]; exact hr.below.size, fun q hq => by rw [hw1 q (by omega)]; exact hr.below.block q hq⟩ }

/-! ### the least and the greatest of whole numbers -/
theorem run_min2 (k k' : IntKind) (x y : Int) (w : World) : (Builtin.min2 (.int k x) (.int k' y)).run P w = .ok (.int k (min x y)) w := by
  simp only [Builtin.min2, Sem.run_pure]
  congr 2
  split <;> omega
theorem run_max2 (k k' : IntKind) (x y : Int) (w : World) : (Builtin.max2 (.int k x) (.int k' y)).run P w = .ok (.int k (max x y)) w := by
  simp only [Builtin.max2, Sem.run_pure]
  congr 2
  split <;> omega
theorem zp_min {x y : Operand} {ts : Array TypeId} {k k' : IntKind} {a b r : Int} (hop : o.op = .call { callee := .builtin .min, args := #[x, y], argTypes := ts }) (hx : ev env x = some (.v (.int k a))) (hy : ev env y = some (.v (.int k' b))) (hr : min a b = r) : ZPure0 P o env (.v (.int k r)) := fun G n act he => by
  have e1 := (ev_ok he hx).eq_v
  have e2 := (ev_ok he hy).eq_v
  subst hr
  exact ⟨_, .v _, fun w => by simp [execOp, hop, e1, e2, resolve, invoke, builtin, Builtin.min_, run_min2]⟩
theorem zp_max {x y : Operand} {ts : Array TypeId} {k k' : IntKind} {a b r : Int} (hop : o.op = .call { callee := .builtin .max, args := #[x, y], argTypes := ts }) (hx : ev env x = some (.v (.int k a))) (hy : ev env y = some (.v (.int k' b))) (hr : max a b = r) : ZPure0 P o env (.v (.int k r)) := fun G n act he => by
  have e1 := (ev_ok he hx).eq_v
  have e2 := (ev_ok he hy).eq_v
  subst hr
  exact ⟨_, .v _, fun w => by simp [execOp, hop, e1, e2, resolve, invoke, builtin, Builtin.max_, run_max2]⟩

end
end Go.Proofs.Zm
