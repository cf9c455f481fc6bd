/- The framework's eighteenth part: new cells that are only read: boxes, bytes of strings. -/
import Derived.Test.YtpelekdimmfldaaZm17
namespace Go.Proofs.Zm
open Go.RowKit
set_option linter.unusedVariables false
set_option linter.unusedSimpArgs false

section
variable {w0 : World} {G : Gh} {st : St} {w w1 : World}

/-- A new block that is only read. -/
theorem Rel.news (h : Rel w0 G st w) (c : List Value) (e : TypeId) (fr : Nat × Nat) (hw : w1.heap = w.heap.push (.cells c.toArray e fr)) (ho : w1.os = w.os) (ht : w1.tape = w.tape) (hp : w1.output = w.output) :
    ∃ G', G.le G' ∧ Rel w0 G' st w1 ∧ G'.nx = G.nx ∧ ∀ j u, c[j]? = some u → G'.M ⟨w.heap.size, j, none⟩ = some u := by
  have hold : ∀ k, k < w.heap.size → w1.heap[k]? = w.heap[k]? := fun k hk => by
    rw [hw, Array.getElem?_push_lt hk, Array.getElem?_eq_getElem hk]
  have hnew : w1.heap[w.heap.size]? = some (.cells c.toArray e fr) := by rw [hw]; simp
  have hMb : ∀ a u, G.M a = some u → a.block < w.heap.size := fun a u hu => cell_lt (h.mem a u hu)
  let G' : Gh := { M := fun a => if a.block = w.heap.size then (if a.spot = none then c[a.off]? else none) else G.M a, rho := G.rho, tau := G.tau, nx := G.nx }
  have hMo : ∀ a, a.block ≠ w.heap.size → G'.M a = G.M a := fun a hne => by simp [G', hne]
  have hle : G.le G' := ⟨fun a u hu => by rw [hMo a (Nat.ne_of_lt (hMb a u hu))]; exact hu, fun _ _ => rfl, fun _ _ => rfl, Nat.le_refl _⟩
  have hxb : ∀ id cs, st.H id = some cs → G.rho id < w.heap.size := fun id cs e1 => by
    obtain ⟨c', e', h1, _⟩ := h.ex id cs e1
    exact (Array.getElem?_eq_some_iff.1 h1).1
  have htb : ∀ t, st.T t = true → (G.tau t).2.2 ≠ 0 → (G.tau t).1 < w.heap.size := fun t e1 e2 => by
    obtain ⟨c', e', h1, _⟩ := h.tk t e1 e2
    exact (Array.getElem?_eq_some_iff.1 h1).1
  refine ⟨G', hle, ?_, rfl, fun j u hj => by simp [G', hj]⟩
  exact {
    mem := fun a u hu => by
      by_cases hb : a.block = w.heap.size
      · simp only [G', hb, if_true] at hu
        split at hu
        · rename_i hs
          obtain ⟨b, off, spot⟩ := a
          simp only at hb hs hu
          subst hs
          subst hb
          rw [cell_heap hnew]; exact hu
        · cases hu
      · rw [hMo a hb] at hu
        rw [cell_same (hold _ (hMb a u hu))]
        exact h.mem a u hu
    nxH := h.nxH
    nxT := h.nxT
    nx0 := h.nx0
    T0 := h.T0
    ex := fun id cs e1 => by
      obtain ⟨c', e', h1, h2, h3, h4⟩ := h.ex id cs e1
      exact ⟨c', e', (hold _ (hxb id cs e1)).trans h1, h2, h3, fun j d u a b => (h4 j d u a b).mono hle⟩
    exM := fun id cs a u e1 hu => by
      by_cases hb : a.block = w.heap.size
      · rw [hb]; have := hxb id cs e1; exact fun he => by rw [show G'.rho id = G.rho id from rfl] at he; omega
      · rw [hMo a hb] at hu; exact h.exM id cs a u e1 hu
    exB := h.exB
    exI := h.exI
    tk := fun t e1 e2 => by
      obtain ⟨c', e', h1, h2⟩ := h.tk t e1 e2
      exact ⟨c', e', (hold _ (htb t e1 e2)).trans h1, h2⟩
    tkM := fun t a u e1 e2 hu hb => by
      have hlt := htb t e1 e2
      have hne : a.block ≠ w.heap.size := by
        rw [hb]; exact Nat.ne_of_lt hlt
      rw [hMo a hne] at hu
      exact h.tkM t a u e1 e2 hu hb
    tkB := h.tkB
    tkI := h.tkI
    tkE := h.tkE
    below := below_push h.below hw ho ht hp }
end
section
variable {P : Program} {w0 : World} {n : Nat} {env : Env} {st : St} {o : Oper} {K : D → St → Prop}

/-- A string, by its bytes. -/
abbrev strD (l : List UInt8) : D := .v (.string ⟨l.toArray⟩)

/-- []byte(s). -/
theorem zv_strBytes {t u e : TypeId} {x : Operand} {l : List UInt8} (hop : o.op = .convert t u x) (ht : P.underlying t = some .string) (hu : P.underlying u = some (.slice e)) (he : P.underlying e = some (.int .u8)) (hx : ev env x = some (strD l)) (hs : l.length ≤ 140737488355328)
    (h : K (.row (bytesD l) 1 0) st) : ZVal P w0 n o env st K := by
  intro G w a hr her
  have ex := (ev_ok her hx).eq_v
  have hsz : (⟨l.toArray⟩ : ByteArray).size = l.length := by simp [ByteArray.size]
  have hrun0 := run_bytes_of_string (P := P) w t u e ⟨l.toArray⟩ ht hu he
  rw [hsz] at hrun0
  have hrun : (execOp a.eval o).run P w = .ok (.value (.slice (some ⟨w.heap.size, 0, none⟩) l.length (grownCap w l.length 0 e))) (w.drew.alloc (.cells (bytesRow ⟨l.toArray⟩ (grownCap w l.length 0 e)) e ((bytesRow ⟨l.toArray⟩ (grownCap w l.length 0 e)).size, (bytesRow ⟨l.toArray⟩ (grownCap w l.length 0 e)).size + 1))) := by
    simp only [execOp, hop, ex, Sem.run_bind, hrun0]; rfl
  have hge := grownCap_ge w l.length 0 e
  have hcm := grownCap_le_maxLen w l.length 0 e (by unfold maxLen; omega)
  obtain ⟨G', hle, hrel, hnx, hM⟩ := (hr.drawn (w.drawn + 1)).news (w1 := w.drew.alloc (.cells (bytesRow ⟨l.toArray⟩ (grownCap w l.length 0 e)) e ((bytesRow ⟨l.toArray⟩ (grownCap w l.length 0 e)).size, (bytesRow ⟨l.toArray⟩ (grownCap w l.length 0 e)).size + 1))) (bytesRow ⟨l.toArray⟩ (grownCap w l.length 0 e)).toList e _ rfl rfl rfl rfl
  refine ⟨_, _, G', _, st, hrun, hle, hrel, ?_, h⟩
  refine .row _ _ _ _ l.length _ (fun i _ => .int .u8 ((l.getD i 0).toNat : Int)) (by simp) hge hcm (fun i y hy => ?_) (fun i j hi hj => ?_) (fun i j => rfl) (fun i y j d hy hj => ?_) (fun h => absurd rfl h)
  · simp only [bytesD, List.getElem?_map] at hy
    obtain ⟨b, _, rfl⟩ := Option.map_eq_some_iff.1 hy
    rfl
  · have : j = 0 := by omega
    subst this
    rw [Nat.mul_one, Nat.add_zero, add_plain]
    refine hM i _ ?_
    simp only [bytesRow, Array.toList_append, Array.toList_map]
    rw [List.getElem?_append_left (by simpa using hi), List.getElem?_map, List.getElem?_eq_getElem hi, getD_in hi]
    rfl
  · simp only [bytesD, List.getElem?_map] at hy
    obtain ⟨b, hb, rfl⟩ := Option.map_eq_some_iff.1 hy
    cases j with
    | succ j => simp at hj
    | zero =>
      simp at hj; subst hj
      have : l.getD i 0 = b := by rw [List.getD_eq_getElem?_getD, hb]; rfl
      rw [this]; exact .v _

theorem bytearray_append (l m : List UInt8) : (⟨l.toArray⟩ : ByteArray) ++ ⟨m.toArray⟩ = ⟨(l ++ m).toArray⟩ := by
  apply ByteArray.ext
  simp
theorem bytearray_extract (l : List UInt8) (i j : Nat) : (⟨l.toArray⟩ : ByteArray).extract i j = ⟨((l.take j).drop i).toArray⟩ := by
  apply ByteArray.ext
  simp [ByteArray.data_extract, List.extract_eq_take_drop, List.drop_take]
/-- Strings behind each other; a string's part. -/
theorem zp_strcat {t t' : TypeId} {x y : Operand} {l m : List UInt8} (hop : o.op = .binOp .add t x y t') (hx : ev env x = some (strD l)) (hy : ev env y = some (strD m)) (hs : l.length + m.length ≤ 9223372036854775807) : ZPure0 P o env (strD (l ++ m)) := by
  have := zp_str (P := P) (r := .string (⟨l.toArray⟩ ++ ⟨m.toArray⟩)) hop hx hy (.inr (.inr (.inr (.inr (.inr (.inr ⟨rfl, rfl, by simp [ByteArray.size]; omega⟩))))))
  rwa [bytearray_append] at this
theorem zp_strcut {t : TypeId} {x : Operand} {lo hi : Option Operand} {bs : List UInt8} {l m : Nat} (hop : o.op = .slice t x lo hi none) (ht : P.underlying t = some .string)
    (hx : ev env x = some (strD bs)) (hlo : evB env lo 0 l) (hhi : evB env hi bs.length m) (h1 : l ≤ m) (h2 : m ≤ bs.length) : ZPure0 P o env (strD ((bs.take m).drop l)) := by
  have hsz : (⟨bs.toArray⟩ : ByteArray).size = bs.length := by simp [ByteArray.size]
  have := zp_cut_str (P := P) hop ht hx hlo (by rw [hsz]; exact hhi) h1 (by rw [hsz]; exact h2)
  rwa [bytearray_extract] at this
theorem zp_strlen {t : TypeId} {x : Operand} {l : List UInt8} (hop : o.op = .call { callee := .builtin .len, args := #[x], argTypes := #[t] }) (ht : P.underlying t = some .string) (hx : ev env x = some (strD l)) : ZPure0 P o env (.v (.int .i64 (l.length : Nat))) := by
  have := zp_len_str (P := P) hop ht hx
  rwa [show (⟨l.toArray⟩ : ByteArray).size = l.length by simp [ByteArray.size]] at this
theorem zp_streq {op : BinOp} {t t' : TypeId} {x y : Operand} {l m : List UInt8} {r : Bool} (hop : o.op = .binOp op t x y t') (hx : ev env x = some (strD l)) (hy : ev env y = some (strD m)) (hr : (op = .eql ∧ r = (l == m)) ∨ (op = .neq ∧ r = !(l == m))) : ZPure0 P o env (.v (.bool r)) := by
  refine zp_str hop hx hy ?_
  rcases hr with ⟨rfl, rfl⟩ | ⟨rfl, rfl⟩
  · exact .inl ⟨rfl, by simp⟩
  · exact .inr (.inl ⟨rfl, by simp⟩)

/-- A new variable that nobody writes. -/
theorem zv_boxRef {e : TypeId} {x : Operand} {d : D} (hop : o.op = .box e x) (hx : ev env x = some d) (h : K (.ref (cellsD d)) st) : ZVal P w0 n o env st K := by
  intro G w a hr her
  have hv := cellsD_ok (ev_ok her hx)
  have hrun : (execOp a.eval o).run P w = .ok (.value (.pointer (some ⟨w.heap.size, 0, none⟩))) (w.alloc (.cells (a.eval x).cells e)) := by
    simp [execOp, hop, Instr.box, newVar, newRow]
  obtain ⟨G', hle, hrel, hnx, hM⟩ := hr.news (w1 := w.alloc (.cells (a.eval x).cells e)) (a.eval x).cells.toList e (0, 0) rfl rfl rfl rfl
  refine ⟨_, _, G', _, st, hrun, hle, hrel, ?_, h⟩
  refine .ref _ _ (fun j => (a.eval x).cells.toList.getD j aCell) (fun j hj => ?_) (fun j d hj => ?_)
  · have hlt : j < (a.eval x).cells.toList.length := by rw [← hv.1]; exact hj
    rw [add_plain, getD_in hlt]
    exact hM j _ (List.getElem?_eq_getElem hlt)
  · have hlt : j < (a.eval x).cells.toList.length := by rw [← hv.1]; exact (List.getElem?_eq_some_iff.1 hj).1
    rw [getD_in hlt]
    exact (hv.2 j d _ hj (List.getElem?_eq_getElem hlt)).mono hle
end
end Go.Proofs.Zm
