/- The framework of these walks, part 3 of 3: abstract values, judgements, rules of operations, own memory. No condition. -/
import Derived.Test.YtocpidlgcakldaaZmP1
import Derived.Test.YtocpidlgcakldaaZmP2
set_option linter.unusedVariables false
set_option linter.unusedSimpArgs false
/- The framework's fifty-fourth part: regions that draw their order, with variables of their own in them that are told once. -/
namespace Go.Proofs.Zm
open Go.RowKit
set_option linter.unusedVariables false
set_option linter.unusedSimpArgs false
/-- A variable: its slot, the numbers of the operations that make it and that fill it, what stands in it at first, then. -/
structure Box where
  slot : Nat
  al : Nat
  sto : Nat
  z : List D
  d : List D
def pickU (k : Nat) (done : List (Option (Nat × D))) (b : Env) : List Edge → Env
  | [] => b
  | e :: es => if Region.binds .any e = true then (match done[k - 1 - e.on]? with | some (some p) => p :: pickU k done b es | _ => pickU k done b es) else pickU k done b es
/-- No variable but this one is made or filled by this operation. -/
def boxB (bx : List Box) (k j : Nat) : Bool := (List.range bx.length).all fun i => Nat.beq i j || (match bx[i]? with | some B => !Nat.beq B.al k && !Nat.beq B.sto k | none => true)
/-- This operation is none of the chain of those that make, and add to, one row. -/
def chB (ch : List (Nat × Nat)) (k : Nat) : Bool := ch.all fun p => !Nat.beq p.1 k
inductive FlatU (P : Program) (w0 : World) (n : Nat) (ops : Array Oper) (b : Env) (tk : List Nat) (ch : List (Nat × Nat)) (bx : List Box) : Nat → List (Option (Nat × D)) → List Oper → List (Option (Nat × D)) → Prop where
  | nil {k : Nat} {done : List (Option (Nat × D))} : FlatU P w0 n ops b tk ch bx k done [] done
  | cons {k t : Nat} {done fin : List (Option (Nat × D))} {o : Oper} {rest : List Oper} {d : D} (hd : o.dst = some t) (ht : Nat.ble (t + 1) n = true) (hz : (o.after.toList.all fun e => !Region.binds .any e || Nat.blt e.on k) = true)
      (hn : boxB bx k bx.length = true) (hch : chB ch k = true) (hg : guardIs ops (pickU k done b o.after.toList) o true) (hok : FOk P w0 n o tk t d (pickU k done b o.after.toList))
      (h : FlatU P w0 n ops b tk ch bx (k + 1) (some (t, d) :: done) rest fin) : FlatU P w0 n ops b tk ch bx k done (o :: rest) fin
  | alloc {k j ty kk by_ : Nat} {B : Box} {done fin : List (Option (Nat × D))} {o : Oper} {rest : List Oper} (hop : o.op = .alloc ty) (hd : o.dst = some B.slot) (ht : Nat.ble (B.slot + 1) n = true) (hz : (o.after.toList.all fun e => !Region.binds .any e || Nat.blt e.on k) = true)
      (hj : bx[j]? = some B) (hal : B.al = k) (hs : B.sto ≠ k) (hn : boxB bx k j = true) (hch : chB ch k = true) (hg : o.guard = none) (he : ElemOk P ty kk by_ B.z) (hz1 : ∀ d ∈ B.z, oneD d = true)
      (h : FlatU P w0 n ops b tk ch bx (k + 1) (none :: done) rest fin) : FlatU P w0 n ops b tk ch bx k done (o :: rest) fin
  | store {k j ty kk : Nat} {ag : Bool} {B : Box} {done fin : List (Option (Nat × D))} {o : Oper} {rest : List Oper} {y : Operand} {d : D} (hop : o.op = .store ty (.tmp B.slot) y) (hd : o.dst = none) (hz : (o.after.toList.all fun e => !Region.binds .any e || Nat.blt e.on k) = true)
      (hj : bx[j]? = some B) (hal : B.al ≠ k) (hs : B.sto = k) (hn : boxB bx k j = true) (hch : chB ch k = true) (hg : o.guard = none) (hdep : (o.after.toList.any fun e => Region.binds .any e && Nat.beq e.on B.al) = true)
      (hy : ev (pickU k done b o.after.toList) y = some d) (hsh : shapeIs P ty ag kk) (hk : (cellsD d).length = kk) (h1 : ∀ c ∈ cellsD d, oneD c = true) (hl : B.z.length = kk) (hc : cellsD d = B.d)
      (h : FlatU P w0 n ops b tk ch bx (k + 1) (none :: done) rest fin) : FlatU P w0 n ops b tk ch bx k done (o :: rest) fin
  | chain0 {k t kk : Nat} {xs : List (List D)} {done fin : List (Option (Nat × D))} {o : Oper} {rest : List Oper} (h0 : ch[0]? = some (k, t)) (htk : tk = []) (hd : o.dst = some t) (ht : Nat.ble (t + 1) n = true) (hz : (o.after.toList.all fun e => !Region.binds .any e || Nat.blt e.on k) = true)
      (hn : boxB bx k bx.length = true) (hg : o.guard = none) (hok : ∀ (st : St) (K : Env → St → Prop), (∀ t', st.T t' = false → t' ≠ 0 → K ((t, .row xs kk t') :: pickU k done b o.after.toList) (st.setT t' true)) → ZOp P w0 n o (pickU k done b o.after.toList) st K)
      (h : FlatU P w0 n ops b tk ch bx (k + 1) (some (t, .row xs kk 0) :: done) rest fin) : FlatU P w0 n ops b tk ch bx k done (o :: rest) fin
  | chainS {i k t kk k0 s0 kk0 : Nat} {xs xs0 : List (List D)} {done fin : List (Option (Nat × D))} {o : Oper} {rest : List Oper} (h0 : ch[i]? = some (k0, s0)) (h1 : ch[i + 1]? = some (k, t)) (htk : tk = []) (hd : o.dst = some t) (ht : Nat.ble (t + 1) n = true) (hz : (o.after.toList.all fun e => !Region.binds .any e || Nat.blt e.on k) = true)
      (hn : boxB bx k bx.length = true) (hg : o.guard = none) (hdep : (o.after.toList.any fun e => Region.binds .any e && Nat.beq e.on k0) = true) (hz0 : zlook (pickU k done b o.after.toList) s0 = some (.row xs0 kk0 0)) (hb0 : zlook b s0 = none)
      (hok : ∀ (st : St) (t0 : Nat) (K : Env → St → Prop), st.T t0 = true → (∀ t', st.T t' = false → t' ≠ 0 → K ((t, .row xs kk t') :: (s0, .row xs0 kk0 t0) :: pickU k done b o.after.toList) ((st.setT t0 false).setT t' true)) → ZOp P w0 n o ((s0, .row xs0 kk0 t0) :: pickU k done b o.after.toList) st K)
      (h : FlatU P w0 n ops b tk ch bx (k + 1) (some (t, .row xs kk 0) :: done) rest fin) : FlatU P w0 n ops b tk ch bx k done (o :: rest) fin
section
variable {P : Program} {w0 : World} {n : Nat} {ops : Array Oper} {b : Env} {tk : List Nat} {ch : List (Nat × Nat)} {bx : List Box}
theorem pickU_at {k : Nat} {done : List (Option (Nat × D))} : ∀ (l : List Edge) (s : Nat) (d : D), zlook (pickU k done b l) s = some d → (∃ e ∈ l, Region.binds .any e = true ∧ done[k - 1 - e.on]? = some (some (s, d))) ∨ zlook b s = some d
  | [], s, d, h => .inr h
  | e :: es, s, d, h => by
    have ih := pickU_at (k := k) (done := done) es s d
    have lift : ((∃ e' ∈ es, Region.binds .any e' = true ∧ done[k - 1 - e'.on]? = some (some (s, d))) ∨ zlook b s = some d) → (∃ e' ∈ e :: es, Region.binds .any e' = true ∧ done[k - 1 - e'.on]? = some (some (s, d))) ∨ zlook b s = some d := fun q => by
      rcases q with ⟨e', h1, h2⟩ | h1
      · exact .inl ⟨e', by simp [h1], h2⟩
      · exact .inr h1
    unfold pickU at h
    split at h
    · rename_i hb
      split at h
      · rename_i p hp
        unfold zlook at h
        split at h
        · rename_i q; cases h; subst q; exact .inl ⟨e, by simp, hb, hp⟩
        · exact lift (ih h)
      · exact lift (ih h)
    · exact lift (ih h)
theorem FlatU.ext {k : Nat} {done fin : List (Option (Nat × D))} {l : List Oper} (h : FlatU P w0 n ops b tk ch bx k done l fin) : ∃ new, fin = new ++ done ∧ new.length = l.length := by
  induction h with
  | nil => exact ⟨[], rfl, rfl⟩
  | cons _ _ _ _ _ _ _ _ ih => obtain ⟨new, e, hl⟩ := ih; exact ⟨new ++ [_], by rw [e, List.append_assoc]; rfl, by simp [hl]⟩
  | chain0 _ _ _ _ _ _ _ _ _ ih => obtain ⟨new, e, hl⟩ := ih; exact ⟨new ++ [_], by rw [e, List.append_assoc]; rfl, by simp [hl]⟩
  | chainS _ _ _ _ _ _ _ _ _ _ _ _ _ ih => obtain ⟨new, e, hl⟩ := ih; exact ⟨new ++ [_], by rw [e, List.append_assoc]; rfl, by simp [hl]⟩
  | alloc _ _ _ _ _ _ _ _ _ _ _ _ _ ih => obtain ⟨new, e, hl⟩ := ih; exact ⟨new ++ [_], by rw [e, List.append_assoc]; rfl, by simp [hl]⟩
  | store _ _ _ _ _ _ _ _ _ _ _ _ _ _ _ _ _ ih => obtain ⟨new, e, hl⟩ := ih; exact ⟨new ++ [_], by rw [e, List.append_assoc]; rfl, by simp [hl]⟩
theorem rev_at' {α : Type} {new done : List α} {k j : Nat} (hk : done.length = k) (hj : j < k) : done[k - 1 - j]? = (new ++ done).reverse[j]? := by
  rw [List.reverse_append, List.getElem?_append_left (by simp; omega), List.getElem?_reverse (by omega), hk]
/-- What is known of an operation. -/
inductive UAt (P : Program) (w0 : World) (n : Nat) (ops : Array Oper) (b : Env) (tk : List Nat) (ch : List (Nat × Nat)) (bx : List Box) (fin : List (Option (Nat × D))) (k : Nat) (o : Oper) : Prop where
  | cons (t : Nat) (d : D) (env : Env) (h1 : fin.reverse[k]? = some (some (t, d))) (hd : o.dst = some t) (ht : t < n) (hn : boxB bx k bx.length = true) (hch : chB ch k = true) (hg : guardIs ops env o true) (hok : FOk P w0 n o tk t d env)
      (he : ∀ s d', zlook env s = some d' → (∃ e ∈ o.after, Region.binds .any e = true ∧ fin.reverse[e.on]? = some (some (s, d'))) ∨ zlook b s = some d') : UAt P w0 n ops b tk ch bx fin k o
  | alloc (j ty kk by_ : Nat) (B : Box) (h1 : fin.reverse[k]? = some none) (hop : o.op = .alloc ty) (hd : o.dst = some B.slot) (ht : B.slot < n) (hj : bx[j]? = some B) (hal : B.al = k) (hs : B.sto ≠ k) (hn : boxB bx k j = true) (hch : chB ch k = true) (hg : o.guard = none) (he : ElemOk P ty kk by_ B.z) (hz1 : ∀ d ∈ B.z, oneD d = true) : UAt P w0 n ops b tk ch bx fin k o
  | store (j ty kk : Nat) (ag : Bool) (B : Box) (env : Env) (y : Operand) (d : D) (h1 : fin.reverse[k]? = some none) (hop : o.op = .store ty (.tmp B.slot) y) (hd : o.dst = none) (hj : bx[j]? = some B) (hal : B.al ≠ k) (hs : B.sto = k) (hn : boxB bx k j = true) (hch : chB ch k = true) (hg : o.guard = none)
      (hdep : ∃ e ∈ o.after, Region.binds .any e = true ∧ e.on = B.al) (hy : ev env y = some d) (hsh : shapeIs P ty ag kk) (hk : (cellsD d).length = kk) (h2 : ∀ c ∈ cellsD d, oneD c = true) (hl : B.z.length = kk) (hc : cellsD d = B.d)
      (he : ∀ s d', zlook env s = some d' → (∃ e ∈ o.after, Region.binds .any e = true ∧ fin.reverse[e.on]? = some (some (s, d'))) ∨ zlook b s = some d') : UAt P w0 n ops b tk ch bx fin k o
  | chain0 (t kk : Nat) (xs : List (List D)) (env : Env) (h1 : fin.reverse[k]? = some (some (t, .row xs kk 0))) (h0 : ch[0]? = some (k, t)) (htk : tk = []) (hd : o.dst = some t) (ht : t < n) (hn : boxB bx k bx.length = true) (hg : o.guard = none)
      (hok : ∀ (st : St) (K : Env → St → Prop), (∀ t', st.T t' = false → t' ≠ 0 → K ((t, .row xs kk t') :: env) (st.setT t' true)) → ZOp P w0 n o env st K)
      (he : ∀ s d', zlook env s = some d' → (∃ e ∈ o.after, Region.binds .any e = true ∧ fin.reverse[e.on]? = some (some (s, d'))) ∨ zlook b s = some d') : UAt P w0 n ops b tk ch bx fin k o
  | chainS (i t kk k0 s0 kk0 : Nat) (xs xs0 : List (List D)) (env : Env) (h1 : fin.reverse[k]? = some (some (t, .row xs kk 0))) (h0 : ch[i]? = some (k0, s0)) (h2 : ch[i + 1]? = some (k, t)) (htk : tk = []) (hd : o.dst = some t) (ht : t < n) (hn : boxB bx k bx.length = true) (hg : o.guard = none)
      (hdep : ∃ e ∈ o.after, Region.binds .any e = true ∧ e.on = k0) (hz0 : zlook env s0 = some (.row xs0 kk0 0)) (hb0 : zlook b s0 = none)
      (hok : ∀ (st : St) (t0 : Nat) (K : Env → St → Prop), st.T t0 = true → (∀ t', st.T t' = false → t' ≠ 0 → K ((t, .row xs kk t') :: (s0, .row xs0 kk0 t0) :: env) ((st.setT t0 false).setT t' true)) → ZOp P w0 n o ((s0, .row xs0 kk0 t0) :: env) st K)
      (he : ∀ s d', zlook env s = some d' → (∃ e ∈ o.after, Region.binds .any e = true ∧ fin.reverse[e.on]? = some (some (s, d'))) ∨ zlook b s = some d') : UAt P w0 n ops b tk ch bx fin k o
theorem pick_fin {k : Nat} {done fin new : List (Option (Nat × D))} {x : Option (Nat × D)} {o : Oper} (hk : done.length = k) (hz : (o.after.toList.all fun e => !Region.binds .any e || Nat.blt e.on k) = true) (e : fin = new ++ (x :: done)) :
    (∀ e ∈ o.after, Region.binds .any e = true → e.on < k) ∧ ∀ s d', zlook (pickU k done b o.after.toList) s = some d' → (∃ e ∈ o.after, Region.binds .any e = true ∧ fin.reverse[e.on]? = some (some (s, d'))) ∨ zlook b s = some d' := by
  have hz' : ∀ e ∈ o.after, Region.binds .any e = true → e.on < k := fun e he hb => by
    have := List.all_eq_true.1 hz e (by simpa using he)
    rw [hb] at this
    simpa [Nat.blt_eq] using this
  refine ⟨hz', fun s d' hs => ?_⟩
  rcases pickU_at _ _ _ hs with ⟨e', h1, h2, h3⟩ | h1
  · have he' : e' ∈ o.after := by simpa using h1
    refine .inl ⟨e', he', h2, ?_⟩
    rw [rev_at' hk (hz' e' he' h2) (new := new ++ [x])] at h3
    rw [e]
    simpa using h3
  · exact .inr h1
theorem FlatU.at_ {k : Nat} {done fin : List (Option (Nat × D))} {l : List Oper} (h : FlatU P w0 n ops b tk ch bx k done l fin) : done.length = k → ∀ i o, l[i]? = some o → (∀ e ∈ o.after, Region.binds .any e = true → e.on < k + i) ∧ UAt P w0 n ops b tk ch bx fin (k + i) o := by
  induction h with
  | nil => intro _ i o h; simp at h
  | @cons k t done fin o rest d hd ht hz hn hch hg hok h ih =>
    intro hk i o' hi
    cases i with
    | zero =>
      simp only [List.getElem?_cons_zero, Option.some.injEq] at hi
      subst hi
      obtain ⟨new, e, hl⟩ := h.ext
      obtain ⟨p1, p2⟩ := pick_fin (b := b) hk hz e
      exact ⟨p1, .cons t d _ (by rw [e, Nat.add_zero, ← rev_at' (k := k + 1) (by simp [hk]) (by omega)]; simp) hd (Nat.le_of_ble_eq_true ht) hn hch hg hok p2⟩
    | succ i =>
      obtain ⟨q1, q2⟩ := ih (by simp [hk]) i o' (by simpa using hi)
      rw [show k + (i + 1) = k + 1 + i by omega]
      exact ⟨q1, q2⟩
  | @alloc k j ty kk by_ B done fin o rest hop hd ht hz hj hal hs hn hch hg he hz1 h ih =>
    intro hk i o' hi
    cases i with
    | zero =>
      simp only [List.getElem?_cons_zero, Option.some.injEq] at hi
      subst hi
      obtain ⟨new, e, hl⟩ := h.ext
      obtain ⟨p1, p2⟩ := pick_fin (b := b) hk hz e
      exact ⟨p1, .alloc j ty kk by_ B (by rw [e, Nat.add_zero, ← rev_at' (k := k + 1) (by simp [hk]) (by omega)]; simp) hop hd (Nat.le_of_ble_eq_true ht) hj hal hs hn hch hg he hz1⟩
    | succ i =>
      obtain ⟨q1, q2⟩ := ih (by simp [hk]) i o' (by simpa using hi)
      rw [show k + (i + 1) = k + 1 + i by omega]
      exact ⟨q1, q2⟩
  | @store k j ty kk ag B done fin o rest y d hop hd hz hj hal hs hn hch hg hdep hy hsh hkk h1 hl hc h ih =>
    intro hk i o' hi
    cases i with
    | zero =>
      simp only [List.getElem?_cons_zero, Option.some.injEq] at hi
      subst hi
      obtain ⟨new, e, hl'⟩ := h.ext
      obtain ⟨p1, p2⟩ := pick_fin (b := b) hk hz e
      refine ⟨p1, .store j ty kk ag B _ y d (by rw [e, Nat.add_zero, ← rev_at' (k := k + 1) (by simp [hk]) (by omega)]; simp) hop hd hj hal hs hn hch hg ?_ hy hsh hkk h1 hl hc p2⟩
      obtain ⟨x, hx, hxe⟩ := List.any_eq_true.1 hdep
      rw [Bool.and_eq_true] at hxe
      exact ⟨x, by simpa using hx, hxe.1, Nat.eq_of_beq_eq_true hxe.2⟩
    | succ i =>
      obtain ⟨q1, q2⟩ := ih (by simp [hk]) i o' (by simpa using hi)
      rw [show k + (i + 1) = k + 1 + i by omega]
      exact ⟨q1, q2⟩
  | @chain0 k t kk xs done fin o rest h0 htk hd ht hz hn hg hok h ih =>
    intro hk i' o' hi
    cases i' with
    | zero =>
      simp only [List.getElem?_cons_zero, Option.some.injEq] at hi
      subst hi
      obtain ⟨new, e, hl⟩ := h.ext
      obtain ⟨p1, p2⟩ := pick_fin (b := b) hk hz e
      exact ⟨p1, .chain0 t kk xs _ (by rw [e, Nat.add_zero, ← rev_at' (k := k + 1) (by simp [hk]) (by omega)]; simp) h0 htk hd (Nat.le_of_ble_eq_true ht) hn hg hok p2⟩
    | succ i' =>
      obtain ⟨q1, q2⟩ := ih (by simp [hk]) i' o' (by simpa using hi)
      rw [show k + (i' + 1) = k + 1 + i' by omega]
      exact ⟨q1, q2⟩
  | @chainS i k t kk k0 s0 kk0 xs xs0 done fin o rest h0 h1 htk hd ht hz hn hg hdep hz0 hb0 hok h ih =>
    intro hk i' o' hi
    cases i' with
    | zero =>
      simp only [List.getElem?_cons_zero, Option.some.injEq] at hi
      subst hi
      obtain ⟨new, e, hl⟩ := h.ext
      obtain ⟨p1, p2⟩ := pick_fin (b := b) hk hz e
      obtain ⟨x, hx, hxe⟩ := List.any_eq_true.1 hdep
      rw [Bool.and_eq_true] at hxe
      exact ⟨p1, .chainS i t kk k0 s0 kk0 xs xs0 _ (by rw [e, Nat.add_zero, ← rev_at' (k := k + 1) (by simp [hk]) (by omega)]; simp) h0 h1 htk hd (Nat.le_of_ble_eq_true ht) hn hg ⟨x, by simpa using hx, hxe.1, Nat.eq_of_beq_eq_true hxe.2⟩ hz0 hb0 hok p2⟩
    | succ i' =>
      obtain ⟨q1, q2⟩ := ih (by simp [hk]) i' o' (by simpa using hi)
      rw [show k + (i' + 1) = k + 1 + i' by omega]
      exact ⟨q1, q2⟩
/-- A variable's block, as far as it has come. -/
def boxAt (L : Array Bool) (ids : Nat → Nat) (j : Nat) (B : Box) : Option Nat × List D := if L.getD B.al false = true then (some (ids j), if L.getD B.sto false = true then B.d else B.z) else (none, [])
def boxesAt (bx : List Box) (L : Array Bool) (ids : Nat → Nat) : List (Option Nat × List D) := (List.range bx.length).map fun j => match bx[j]? with | some B => boxAt L ids j B | none => (none, [])
theorem boxes_get {L : Array Bool} {ids : Nat → Nat} {j : Nat} {B : Box} (h : bx[j]? = some B) : (boxesAt bx L ids)[j]? = some (boxAt L ids j B) := by
  obtain ⟨hj, _⟩ := List.getElem?_eq_some_iff.1 h
  unfold boxesAt
  rw [List.getElem?_map, List.getElem?_range hj]
  simp [h]
theorem boxB_of {k j i : Nat} {B : Box} (h : boxB bx k j = true) (hi : bx[i]? = some B) (hij : i ≠ j) : B.al ≠ k ∧ B.sto ≠ k := by
  obtain ⟨hl, _⟩ := List.getElem?_eq_some_iff.1 hi
  have := List.all_eq_true.1 h i (by simpa using hl)
  simp only [hi, Bool.or_eq_true, Bool.and_eq_true, Bool.not_eq_true'] at this
  rcases this with h | h
  · exact absurd (Nat.eq_of_beq_eq_true h) hij
  · exact ⟨Nat.ne_of_beq_eq_false h.1, Nat.ne_of_beq_eq_false h.2⟩
theorem boxes_same {L : Array Bool} {ids : Nat → Nat} {k : Nat} (h : boxB bx k bx.length = true) : boxesAt bx (L.setIfInBounds k true) ids = boxesAt bx L ids := by
  unfold boxesAt
  refine List.map_congr_left fun i hi => ?_
  simp only [List.mem_range] at hi
  rw [List.getElem?_eq_getElem hi]
  obtain ⟨h1, h2⟩ := boxB_of h (List.getElem?_eq_getElem hi) (by omega)
  simp only [boxAt, getD_setF (Ne.symm h1), getD_setF (Ne.symm h2)]
theorem boxes_set {L : Array Bool} {ids ids' : Nat → Nat} {k j : Nat} {B : Box} {p : Option Nat × List D} (hj : bx[j]? = some B) (h : boxB bx k j = true) (hids : ∀ i, i ≠ j → ids' i = ids i) (hp : boxAt (L.setIfInBounds k true) ids' j B = p) :
    boxesAt bx (L.setIfInBounds k true) ids' = (boxesAt bx L ids).set j p := by
  obtain ⟨hl, hB⟩ := List.getElem?_eq_some_iff.1 hj
  refine List.ext_getElem? fun i => ?_
  by_cases hij : i = j
  · subst hij
    rw [boxes_get hj, hp, List.getElem?_set_self (by simp [boxesAt, hl])]
  · rw [List.getElem?_set_ne (Ne.symm hij)]
    cases hbi : bx[i]? with
    | none =>
      have h1 : bx.length ≤ i := List.getElem?_eq_none_iff.1 hbi
      rw [List.getElem?_eq_none (by simp [boxesAt, h1]), List.getElem?_eq_none (by simp [boxesAt, h1])]
    | some B' =>
      obtain ⟨h1, h2⟩ := boxB_of h hbi hij
      rw [boxes_get hbi, boxes_get hbi]
      simp only [boxAt, getD_setF (Ne.symm h1), getD_setF (Ne.symm h2), hids i hij]
theorem once_nodup : ∀ {l : List Nat}, onceB l = true → l.Nodup
  | [], _ => List.nodup_nil
  | x :: xs, h => by
    simp only [onceB, Bool.and_eq_true, List.all_eq_true, Bool.not_eq_true'] at h
    exact List.nodup_cons.2 ⟨fun hx => absurd rfl (Nat.ne_of_beq_eq_false (h.1 x hx)), once_nodup h.2⟩
theorem nodup_at {l : List Nat} (h : l.Nodup) {i j x : Nat} (hi : l[i]? = some x) (hj : l[j]? = some x) : i = j := by
  obtain ⟨li, e1⟩ := List.getElem?_eq_some_iff.1 hi
  obtain ⟨lj, e2⟩ := List.getElem?_eq_some_iff.1 hj
  exact (List.getElem_inj h).1 (e1.trans e2.symm)
theorem fin_once {l : List (Option (Nat × D))} (h : ((l.filterMap id).map Prod.fst).Nodup) {i j s : Nat} {d d' : D} (hi : l.reverse[i]? = some (some (s, d))) (hj : l.reverse[j]? = some (some (s, d'))) : i = j := by
  have hp : l.Pairwise fun x y => ∀ p q, x = some p → y = some q → p.1 ≠ q.1 := by
    clear hi hj
    induction l with
    | nil => exact List.Pairwise.nil
    | cons x l ih =>
      refine List.pairwise_cons.2 ⟨fun y hy p q hx hq => ?_, ih ?_⟩
      · subst hx hq
        simp only [List.filterMap_cons, id, List.map_cons, List.nodup_cons] at h
        exact fun e => h.1 (List.mem_map.2 ⟨q, List.mem_filterMap.2 ⟨some q, hy, rfl⟩, e.symm⟩)
      · cases x with
        | none => simpa using h
        | some p => simp only [List.filterMap_cons, id, List.map_cons, List.nodup_cons] at h; exact h.2
  obtain ⟨li, e1⟩ := List.getElem?_eq_some_iff.1 hi
  obtain ⟨lj, e2⟩ := List.getElem?_eq_some_iff.1 hj
  rw [List.length_reverse] at li lj
  rw [List.getElem_reverse] at e1 e2
  have hpp := List.pairwise_iff_getElem.1 hp
  rcases Nat.lt_trichotomy i j with h1 | h1 | h1
  · exact absurd rfl (hpp (l.length - 1 - j) (l.length - 1 - i) (by omega) (by omega) (by omega) (s, d') (s, d) e2 e1)
  · exact h1
  · exact absurd rfl (hpp (l.length - 1 - i) (l.length - 1 - j) (by omega) (by omega) (by omega) (s, d) (s, d') e1 e2)
structure FInvU (w0 : World) (st cur : St) (tk : List Nat) (ch : List (Nat × Nat)) (bx : List Box) (ids : Nat → Nat) (G : Gh) (n : Nat) (b : Env) (fin : List (Option (Nat × D))) (L : Array Bool) (tmps : Array Value) : Prop where
  size : tmps.size = n
  made : ∀ j s d, L.getD j false = true → fin.reverse[j]? = some (some (s, d)) → ∃ u, tmps[s]? = some u ∧ VR G d u ∧ (tk.contains s = true → Strong w0 G cur u d)
  base : ∀ s d, zlook b s = some d → ∃ u, tmps[s]? = some u ∧ VR G d u
  sep : Sep st cur (boxesAt bx L ids)
  ord : ∀ (j : Nat) B, bx[j]? = some B → L.getD B.sto false = true → L.getD B.al false = true
  chn : ∀ (i c s : Nat), ch[i]? = some (c, s) → L.getD c false = true → (∀ c' s', ch[i + 1]? = some (c', s') → L.getD c' false = false) → ∃ xs kk t u, fin.reverse[c]? = some (some (s, .row xs kk 0)) ∧ tmps[s]? = some u ∧ VR G (.row xs kk t) u ∧ t ≠ 0 ∧ cur.T t = true ∧ st.T t = false
  cord : ∀ (i c s c' s' : Nat), ch[i]? = some (c, s) → ch[i + 1]? = some (c', s') → L.getD c' false = true → L.getD c false = true
  box : ∀ (j : Nat) B, bx[j]? = some B → L.getD B.al false = true → ∃ u, tmps[B.slot]? = some u ∧ VR G (.ptr (ids j) 0) u
theorem chB_of {k i c s : Nat} (h : chB ch k = true) (hi : ch[i]? = some (c, s)) : c ≠ k := by
  have := List.all_eq_true.1 h _ (List.mem_of_getElem? hi)
  rw [Bool.not_eq_true'] at this
  exact Nat.ne_of_beq_eq_false this
theorem chn_keep {G G' : Gh} {st cur cur' : St} {fin : List (Option (Nat × D))} {L : Array Bool} {tmps tmps' : Array Value} {k : Nat} (hle : G.le G') (hch : chB ch k = true) (hT : cur'.T = cur.T)
    (hfr : ∀ c s d u, c ≠ k → fin.reverse[c]? = some (some (s, d)) → tmps[s]? = some u → tmps'[s]? = some u)
    (h : ∀ (i c s : Nat), ch[i]? = some (c, s) → L.getD c false = true → (∀ c' s', ch[i + 1]? = some (c', s') → L.getD c' false = false) → ∃ xs kk t u, fin.reverse[c]? = some (some (s, .row xs kk 0)) ∧ tmps[s]? = some u ∧ VR G (.row xs kk t) u ∧ t ≠ 0 ∧ cur.T t = true ∧ st.T t = false) :
    ∀ (i c s : Nat), ch[i]? = some (c, s) → (L.setIfInBounds k true).getD c false = true → (∀ c' s', ch[i + 1]? = some (c', s') → (L.setIfInBounds k true).getD c' false = false) → ∃ xs kk t u, fin.reverse[c]? = some (some (s, .row xs kk 0)) ∧ tmps'[s]? = some u ∧ VR G' (.row xs kk t) u ∧ t ≠ 0 ∧ cur'.T t = true ∧ st.T t = false := by
  intro i c s hi hc hn
  have hck := chB_of hch hi
  rw [getD_setF (Ne.symm hck)] at hc
  obtain ⟨xs, kk, t, u, w1, w2, w3, w4, w5, w6⟩ := h i c s hi hc (fun c' s' h' => by have := hn c' s' h'; rwa [getD_setF (Ne.symm (chB_of hch h'))] at this)
  exact ⟨xs, kk, t, u, w1, hfr c s _ u hck w1 w2, w3.mono hle, w4, by rw [hT]; exact w5, w6⟩
theorem cord_keep {L : Array Bool} {k : Nat} (hch : chB ch k = true) (h : ∀ (i c s c' s' : Nat), ch[i]? = some (c, s) → ch[i + 1]? = some (c', s') → L.getD c' false = true → L.getD c false = true) :
    ∀ (i c s c' s' : Nat), ch[i]? = some (c, s) → ch[i + 1]? = some (c', s') → (L.setIfInBounds k true).getD c' false = true → (L.setIfInBounds k true).getD c false = true := by
  intro i c s c' s' h1 h2 h3
  rw [getD_setF (Ne.symm (chB_of hch h2))] at h3
  rw [getD_setF (Ne.symm (chB_of hch h1))]
  exact h i c s c' s' h1 h2 h3
theorem cord_down {L : Array Bool} (h : ∀ (i c s c' s' : Nat), ch[i]? = some (c, s) → ch[i + 1]? = some (c', s') → L.getD c' false = true → L.getD c false = true) : ∀ (d j c s c' s' : Nat), ch[j]? = some (c, s) → ch[j + d]? = some (c', s') → L.getD c' false = true → L.getD c false = true
  | 0, j, c, s, c', s', h1, h2, h3 => by
    rw [Nat.add_zero, h1] at h2; cases h2; exact h3
  | d + 1, j, c, s, c', s', h1, h2, h3 => by
    obtain ⟨p, hp⟩ : ∃ p, ch[j + d]? = some p := by
      obtain ⟨hl, _⟩ := List.getElem?_eq_some_iff.1 h2
      exact ⟨_, List.getElem?_eq_getElem (show j + d < ch.length by omega)⟩
    exact cord_down h d j c s p.1 p.2 h1 hp (h (j + d) p.1 p.2 c' s' hp (by rw [Nat.add_assoc]; exact h2) h3)
theorem Strong.setH {w0 : World} {G : Gh} {st : St} {id : Nat} {cs : Option (List D)} {u : Value} {d : D} (h : Strong w0 G st u d) : Strong w0 G (st.setH id cs) u d := by
  obtain ⟨xs, k, t, h1, h2, h3, h4, h5, h6⟩ := h
  exact ⟨xs, k, t, h1, h2, h3, h4, h5, h6.nx, h6.new, h6.tk⟩
theorem flatU_main {Q : ZPost} {st : St} {l : List Oper} {fin : List (Option (Nat × D))} (G0 : Gh) (hops : ops = l.toArray) (hF : FlatU P w0 n ops b tk ch bx 0 [] l fin) (h1 : onceB ((fin.filterMap id).map Prod.fst ++ bx.map Box.slot) = true) (h2 : ∀ s d, zlook b s = some d → (∀ p ∈ fin.filterMap id, p.1 ≠ s) ∧ (∀ B ∈ bx, B.slot ≠ s) ∧ tk.contains s = false)
    (h3 : ∀ B ∈ bx, B.al < l.length) (h4 : onceB (ch.map Prod.fst) = true) (hk : ∀ cur ids, Sep st cur (boxesAt bx (Array.replicate l.length true) ids) → Q .normal (fin.filterMap id ++ (((List.range bx.length).filterMap fun j => bx[j]?.map fun B => (B.slot, D.ptr (ids j) 0)) ++ b)) cur) :
    ∀ (fuel : Nat) (L : Array Bool) (G : Gh) (w : World) (a : Act) (cur : St) (ids : Nat → Nat), G0.le G → L.size = l.length → ((List.range l.length).filter fun i => !L.getD i true).length ≤ fuel → Rel w0 G cur w → FInvU w0 st cur tk ch bx ids G n b fin L a.tmps → a.defers = [] → wpAny P .any ops (Outc w0 n Q G0) fuel L a w := by
  have hlen : fin.length = l.length := by obtain ⟨new, e, hl⟩ := hF.ext; rw [e]; simpa using hl
  have hmem : ∀ {i : Nat} {p : Nat × D}, fin.reverse[i]? = some (some p) → p ∈ fin.filterMap id := fun {i p} hi => List.mem_filterMap.2 ⟨some p, List.mem_reverse.1 (List.mem_of_getElem? hi), rfl⟩
  have hnd := once_nodup h1
  have hone : ∀ i j s d d', fin.reverse[i]? = some (some (s, d)) → fin.reverse[j]? = some (some (s, d')) → i = j := fun i j s d d' hi hj => fin_once (l := fin) (List.nodup_append.1 hnd).1 hi hj
  have hbox : ∀ i s d B, fin.reverse[i]? = some (some (s, d)) → B ∈ bx → B.slot ≠ s := fun i s d B hi hB e => (List.nodup_append.1 hnd).2.2 s (List.mem_map.2 ⟨(s, d), hmem hi, rfl⟩) B.slot (List.mem_map.2 ⟨B, hB, rfl⟩) e.symm
  have hbb : ∀ (i j : Nat) (B B' : Box), bx[i]? = some B → bx[j]? = some B' → B.slot = B'.slot → i = j := fun i j B B' hi hj e => nodup_at (l := bx.map Box.slot) (List.nodup_append.1 hnd).2.1 (by rw [List.getElem?_map, hi]; rfl) (by rw [List.getElem?_map, hj]; exact congrArg some e.symm)
  have hat := hF.at_ rfl
  have hend : ∀ (L : Array Bool) (G : Gh) (w : World) (a : Act) (cur : St) (ids : Nat → Nat), G0.le G → L.size = l.length → (∀ j < l.length, L.getD j false = true) → Rel w0 G cur w → FInvU w0 st cur tk ch bx ids G n b fin L a.tmps → a.defers = [] → Outc w0 n Q G0 .normal a w := fun L G w a cur ids hle hsz hall hr hI hdf => by
    have hLr : L = Array.replicate l.length true := by
      refine Array.ext (by simp [hsz]) fun i h1 h2 => ?_
      have := hall i (by omega)
      simp only [Array.getD_eq_getD_getElem?, Array.getElem?_eq_getElem h1, Option.getD_some] at this
      simp [this]
    refine ⟨G, _, cur, hle, hr, ⟨hI.size, fun s d hs => ?_⟩, hdf, hk cur ids (hLr ▸ hI.sep)⟩
    rcases zlook_app _ hs with hm | hs
    · obtain ⟨x, hx, hxe⟩ := List.mem_filterMap.1 hm
      simp only [id] at hxe
      subst hxe
      obtain ⟨j, hj⟩ := List.getElem?_of_mem (List.mem_reverse.2 hx)
      obtain ⟨lj, _⟩ := List.getElem?_eq_some_iff.1 hj
      obtain ⟨u, q1, q2, _⟩ := hI.made j s d (hall j (by simpa [hlen] using lj)) hj
      exact ⟨u, q1, q2⟩
    rcases zlook_app _ hs with hm | hb
    · obtain ⟨j, hj, hje⟩ := List.mem_filterMap.1 hm
      cases hB : bx[j]? with
      | none => rw [hB] at hje; cases hje
      | some B =>
        rw [hB] at hje
        simp only [Option.map_some, Option.some.injEq, Prod.mk.injEq] at hje
        obtain ⟨rfl, rfl⟩ := hje
        exact hI.box j B hB (hall _ (h3 B (List.mem_of_getElem? hB)))
    · exact hI.base s d hb
  intro fuel
  induction fuel with
  | zero =>
    intro L G w a cur ids hle hsz hun hr hI hdf
    have hall : ∀ j < l.length, L.getD j false = true := fun j hj => by
      have h0 : (List.range l.length).filter (fun i => !L.getD i true) = [] := List.length_eq_zero_iff.1 (by omega)
      have := List.filter_eq_nil_iff.1 h0 j (by simpa using hj)
      simp only [Array.getD_eq_getD_getElem?, Array.getElem?_eq_getElem (show j < L.size by omega), Option.getD_some] at this ⊢
      simpa using this
    refine ⟨?_, hend L G w a cur ids hle hsz hall hr hI hdf⟩
    refine List.eq_nil_iff_forall_not_mem.2 fun j hj => ?_
    obtain ⟨hju, o, ho, _⟩ := mem_ready.1 hj
    have hjl : j < l.length := by
      rw [hops] at ho
      obtain ⟨hh, _⟩ := Array.getElem?_eq_some_iff.1 ho
      simpa using hh
    have := hall j hjl
    simp only [Array.getD_eq_getD_getElem?, Array.getElem?_eq_getElem (show j < L.size by omega), Option.getD_some] at this hju
    rw [this] at hju; cases hju
  | succ fuel ih =>
    intro L G w a cur ids hle hsz hun hr hI hdf
    refine ⟨fun hnr => ?_, fun i hi => ?_⟩
    · refine hend L G w a cur ids hle hsz ?_ hr hI hdf
      intro j
      induction j using Nat.strongRecOn with
      | _ j ihj =>
        intro hj
        cases hjl : L.getD j false with
        | true => rfl
        | false =>
          exfalso
          have hm : j ∈ Region.ready .any ops L := by
            refine mem_ready.2 ⟨?_, l[j], by rw [hops]; simp [hj], fun e he hb => ?_⟩
            · simp only [Array.getD_eq_getD_getElem?, Array.getElem?_eq_getElem (show j < L.size by omega), Option.getD_some] at hjl ⊢; exact hjl
            · have := (hat j l[j] (by simp [hj])).1 e he hb
              exact ihj e.on (by omega) (by omega)
          rw [hnr] at hm; cases hm
    · obtain ⟨hiu, o, ho, hdep⟩ := mem_ready.1 hi
      have ho' : l[i]? = some o := by rw [hops] at ho; simpa using ho
      obtain ⟨hil, _⟩ := List.getElem?_eq_some_iff.1 ho'
      have hfuel : ((List.range l.length).filter fun j => !(L.setIfInBounds i true).getD j true).length ≤ fuel := by
        have := filt_lt (p := fun i => !L.getD i true) (q := fun j => !(L.setIfInBounds i true).getD j true) (List.range l.length) (fun x hx hq => by
          by_cases hxi : i = x
          · subst hxi
            rw [Array.getD_eq_getD_getElem?, Array.getElem?_setIfInBounds_self_of_lt (by omega)] at hq; cases hq
          · rw [Array.getD_eq_getD_getElem?, Array.getElem?_setIfInBounds_ne hxi, ← Array.getD_eq_getD_getElem?] at hq; exact hq) ⟨i, by simpa using hil, by simp [hiu], by rw [Array.getD_eq_getD_getElem?, Array.getElem?_setIfInBounds_self_of_lt (by omega)]; rfl⟩
        omega
      have hself : (L.setIfInBounds i true).getD i false = true := by rw [Array.getD_eq_getD_getElem?, Array.getElem?_setIfInBounds_self_of_lt (by omega)]; rfl
      have hU := (hat i o ho').2
      rw [Nat.zero_add] at hU
      have hER : ∀ env, (∀ s d', zlook env s = some d' → (∃ e ∈ o.after, Region.binds .any e = true ∧ fin.reverse[e.on]? = some (some (s, d'))) ∨ zlook b s = some d') → ER G n env a.tmps := fun env q7 => ⟨hI.size, fun s d' hs => by
        rcases q7 s d' hs with ⟨e, he, hb, hf⟩ | hb
        · obtain ⟨u, q1, q2, _⟩ := hI.made e.on s d' (hdep e he hb) hf
          exact ⟨u, q1, q2⟩
        · exact hI.base s d' hb⟩
      unfold wpOp
      cases hU with
      | cons t d env q1 q2 q3 qn qch q5 q6 q7 =>
        have hE := hER env q7
        simp only [ho, guardIs_ok hE q5, if_true]
        left
        refine q6 G w a cur hr hE (fun s dd u hs hz hu => ?_) hdf _ _ fun G' a' w' hle' hrel he' hd' hstr hfr => ?_
        · rcases q7 s dd hz with ⟨e, he, hb, hf⟩ | hb
          · obtain ⟨u', w1, _, w3⟩ := hI.made e.on s dd (hdep e he hb) hf
            rw [hu] at w1; cases w1
            exact w3 hs
          · rw [(h2 s dd hb).2.2] at hs; cases hs
        refine ih _ G' w' a' cur ids (hle.trans hle') (by simp [hsz]) hfuel hrel ⟨he'.size, fun j s d' hj hf => ?_, fun s d' hs => ?_, ?_, ?_, chn_keep hle' qch rfl (fun c s d' u hc hf hu => hfr s u (fun e => by rw [q2] at e; cases e; exact hc (hone c i t d' d hf q1)) hu) hI.chn, cord_keep qch hI.cord, fun j B hB hal => ?_⟩ hd'
        · by_cases hji : i = j
          · subst hji
            rw [q1] at hf; cases hf
            obtain ⟨u, w1, w2⟩ := he'.at_ t d (by unfold zlook; simp)
            exact ⟨u, w1, w2, fun hc => hstr hc u w1⟩
          · rw [getD_setF hji] at hj
            obtain ⟨u, hu, hv, hvs⟩ := hI.made j s d' hj hf
            refine ⟨u, hfr s u (fun e => ?_) hu, hv.mono hle', fun hc => (hvs hc).mono hr hle'⟩
            rw [q2] at e; cases e
            exact hji (hone i j t d d' q1 hf)
        · obtain ⟨u, hu, hv⟩ := hI.base s d' hs
          refine ⟨u, hfr s u (fun e => ?_) hu, hv.mono hle'⟩
          rw [q2] at e; cases e
          exact (h2 t d' hs).1 (t, d) (hmem q1) rfl
        · rw [boxes_same qn]; exact hI.sep
        · intro j B hB hst
          obtain ⟨hjl, _⟩ := List.getElem?_eq_some_iff.1 hB
          obtain ⟨w1, w2⟩ := boxB_of qn hB (by omega)
          rw [getD_setF w2.symm] at hst
          rw [getD_setF w1.symm]; exact hI.ord j B hB hst
        · obtain ⟨hjl, _⟩ := List.getElem?_eq_some_iff.1 hB
          rw [getD_setF (boxB_of qn hB (by omega)).1.symm] at hal
          obtain ⟨u, hu, hv⟩ := hI.box j B hB hal
          refine ⟨u, hfr _ u (fun e => ?_) hu, hv.mono hle'⟩
          rw [q2] at e; cases e
          exact hbox i _ d B q1 (List.mem_of_getElem? hB) rfl
      | alloc j ty kk by_ B q1 hop hd ht hj hal hs hn hch hg he hz1 =>
        have hE := hER [] (fun s d' hs => by cases hs)
        simp only [ho, guardIs_ok hE (g_none hg), if_true]
        left
        have hz : ZOp P w0 n o [] cur (fun env' st' => ∃ id, Fresh cur id ∧ env' = [(B.slot, .ptr id 0)] ∧ st' = cur.setH id (some B.z)) := ZVal.op hd ht (zv_alloc hop he hz1 fun id hf => ⟨id, hf, rfl, rfl⟩)
        refine hz G w a hr hE hdf _ _ fun G' env' st' a' w' hle' hrel he' hd' hK hfr => ?_
        obtain ⟨id, hf, rfl, rfl⟩ := hK
        have hBm : B ∈ bx := List.mem_of_getElem? hj
        have hun : L.getD B.al false = false := by
          rw [hal]
          simp only [Array.getD_eq_getD_getElem?, Array.getElem?_eq_getElem (show i < L.size by omega), Option.getD_some] at hiu ⊢; exact hiu
        have hst0 : L.getD B.sto false = false := by
          cases e : L.getD B.sto false with
          | false => rfl
          | true => have := hI.ord j B hj e; rw [hun] at this; cases this
        refine ih _ G' w' a' (cur.setH id (some B.z)) (fun x => if x = j then id else ids x) (hle.trans hle') (by simp [hsz]) hfuel hrel ⟨he'.size, fun q s d' hq hf' => ?_, fun s d' hs' => ?_, ?_, ?_, chn_keep hle' hch rfl (fun c s d' u hc hf2 hu => hfr s u (fun e => by rw [hd] at e; cases e; exact hbox c _ d' B hf2 hBm rfl) hu) hI.chn, cord_keep hch hI.cord, fun q B' hB' hal' => ?_⟩ hd'
        · have hqi : i ≠ q := fun e => by subst e; rw [q1] at hf'; cases hf'
          rw [getD_setF hqi] at hq
          obtain ⟨u, hu, hv, hvs⟩ := hI.made q s d' hq hf'
          refine ⟨u, hfr s u (fun e => ?_) hu, hv.mono hle', fun hc => ((hvs hc).mono hr hle').setH⟩
          rw [hd] at e; cases e
          exact hbox q _ d' B hf' hBm rfl
        · obtain ⟨u, hu, hv⟩ := hI.base s d' hs'
          refine ⟨u, hfr s u (fun e => ?_) hu, hv.mono hle'⟩
          rw [hd] at e; cases e
          exact (h2 _ d' hs').2.1 B hBm rfl
        · rw [boxes_set (ids := ids) (p := (some id, B.z)) hj hn (fun q hq => by simp [hq]) (by
            unfold boxAt
            rw [show (L.setIfInBounds i true).getD B.al false = true by rw [hal]; exact hself, getD_setF (Ne.symm hs), hst0]
            simp)]
          exact hI.sep.swap (boxes_get hj) hf B.z
        · intro q B' hB' hst'
          by_cases hqj : q = j
          · subst hqj
            rw [hj] at hB'; cases hB'
            rw [hal]; exact hself
          · obtain ⟨w1, w2⟩ := boxB_of hn hB' hqj
            rw [getD_setF w2.symm] at hst'
            rw [getD_setF w1.symm]; exact hI.ord q B' hB' hst'
        · by_cases hqj : q = j
          · subst hqj
            rw [hj] at hB'; cases hB'
            simp only [if_true]
            exact he'.at_ B.slot _ (by unfold zlook; simp)
          · obtain ⟨w1, w2⟩ := boxB_of hn hB' hqj
            rw [getD_setF w1.symm] at hal'
            obtain ⟨u, hu, hv⟩ := hI.box q B' hB' hal'
            rw [if_neg hqj]
            refine ⟨u, hfr _ u (fun e => ?_) hu, hv.mono hle'⟩
            rw [hd] at e
            exact hqj (hbb q j B' B hB' hj (Option.some.inj e).symm)
      | store j ty kk ag B env y d q1 hop hd hj hal hs hn hch hg hdp hy hsh hkk h5 hl hc q7 =>
        have hE := hER env q7
        simp only [ho, guardIs_ok hE (g_none hg), if_true]
        left
        have hBm : B ∈ bx := List.mem_of_getElem? hj
        obtain ⟨e0, he0, hb0, heq0⟩ := hdp
        have hala : L.getD B.al false = true := by rw [← heq0]; exact hdep e0 he0 hb0
        have hsto : L.getD B.sto false = false := by
          rw [hs]
          simp only [Array.getD_eq_getD_getElem?, Array.getElem?_eq_getElem (show i < L.size by omega), Option.getD_some] at hiu ⊢; exact hiu
        obtain ⟨ub, hub, hvb⟩ := hI.box j B hj hala
        have hat0 : (boxesAt bx L ids)[j]? = some (some (ids j), B.z) := by rw [boxes_get hj]; unfold boxAt; rw [hala, hsto]; simp
        have hEb : ER G n ((B.slot, .ptr (ids j) 0) :: env) a.tmps := ⟨hE.size, fun s d' hz => by
          unfold zlook at hz
          split at hz
          · rename_i q; cases hz; subst q; exact ⟨ub, hub, hvb⟩
          · exact hE.at_ s d' hz⟩
        have hslot : ∀ s d', zlook env s = some d' → B.slot ≠ s := fun s d' hz => by
          rcases q7 s d' hz with ⟨e, _, _, hf⟩ | hb
          · exact hbox e.on s d' B hf hBm
          · exact (h2 s d' hb).2.1 B hBm
        have hyb : ev ((B.slot, .ptr (ids j) 0) :: env) y = some d := by
          cases y <;> first
            | exact hy
            | (simp only [ev] at hy ⊢; unfold zlook; rw [if_neg (hslot _ _ hy)]; exact hy)
        have hz := zop_store (K := fun env' st' => st' = cur.setH (ids j) (some B.d)) (w0 := w0) (n := n) hop hd hsh (show ev ((B.slot, .ptr (ids j) 0) :: env) (.tmp B.slot) = some (.ptr (ids j) 0) by simp [ev, zlook]) (hI.sep.at_ hat0) hyb hkk h5 (by omega) (by rw [List.take_zero, List.nil_append, Nat.zero_add, List.drop_eq_nil_of_le (by omega), List.append_nil, hc])
        refine hz G w a hr hEb hdf _ _ fun G' env' st' a' w' hle' hrel he' hd' hK hfr => ?_
        subst hK
        have hfr0 : ∀ s u, a.tmps[s]? = some u → a'.tmps[s]? = some u := fun s u hu => hfr s u (by rw [hd]; exact fun e => by cases e) hu
        have hsz' : a'.tmps.size = n := he'.size
        refine ih _ G' w' a' (cur.setH (ids j) (some B.d)) ids (hle.trans hle') (by simp [hsz]) hfuel hrel ⟨hsz', fun q s d' hq hf' => ?_, fun s d' hs' => ?_, ?_, ?_, chn_keep hle' hch rfl (fun c s d' u hc hf2 hu => hfr0 s u hu) hI.chn, cord_keep hch hI.cord, fun q B' hB' hal' => ?_⟩ hd'
        · have hqi : i ≠ q := fun e => by subst e; rw [q1] at hf'; cases hf'
          rw [getD_setF hqi] at hq
          obtain ⟨u, hu, hv, hvs⟩ := hI.made q s d' hq hf'
          exact ⟨u, hfr0 s u hu, hv.mono hle', fun hc => ((hvs hc).mono hr hle').setH⟩
        · obtain ⟨u, hu, hv⟩ := hI.base s d' hs'
          exact ⟨u, hfr0 s u hu, hv.mono hle'⟩
        · rw [boxes_set (ids := ids) (p := (some (ids j), B.d)) hj hn (fun q hq => rfl) (by
            unfold boxAt
            rw [getD_setF (Ne.symm hal), hala, show (L.setIfInBounds i true).getD B.sto false = true by rw [hs]; exact hself]
            simp)]
          exact hI.sep.put hat0 B.d
        · intro q B' hB' hst'
          by_cases hqj : q = j
          · subst hqj
            rw [hj] at hB'; cases hB'
            rw [getD_setF (Ne.symm hal)]; exact hala
          · obtain ⟨w1, w2⟩ := boxB_of hn hB' hqj
            rw [getD_setF w2.symm] at hst'
            rw [getD_setF w1.symm]; exact hI.ord q B' hB' hst'
        · have hal2 : L.getD B'.al false = true := by
            by_cases hqj : q = j
            · subst hqj
              rw [hj] at hB'; cases hB'
              exact hala
            · rw [getD_setF (boxB_of hn hB' hqj).1.symm] at hal'; exact hal'
          obtain ⟨u, hu, hv⟩ := hI.box q B' hB' hal2
          exact ⟨u, hfr0 _ u hu, hv.mono hle'⟩
      | chain0 t kk xs env q1 h0c htk q2 q3 qn hg hok q7 =>
        have hE := hER env q7
        simp only [ho, guardIs_ok hE (g_none hg), if_true]
        left
        have hunl : L.getD i false = false := by
          simp only [Array.getD_eq_getD_getElem?, Array.getElem?_eq_getElem (show i < L.size by omega), Option.getD_some] at hiu ⊢; exact hiu
        have hz : ZOp P w0 n o env cur (fun env' st' => ∃ t', cur.T t' = false ∧ t' ≠ 0 ∧ env' = (t, .row xs kk t') :: env ∧ st' = cur.setT t' true) := hok cur _ fun t' e1 e2 => ⟨t', e1, e2, rfl, rfl⟩
        refine hz G w a hr hE hdf _ _ fun G' env' st' a' w' hle' hrel he' hd' hK hfr => ?_
        obtain ⟨t', e1, e2, rfl, rfl⟩ := hK
        obtain ⟨u, hu, hv⟩ := he'.at_ t (.row xs kk t') (by unfold zlook; simp)
        refine ih _ G' w' a' (cur.setT t' true) ids (hle.trans hle') (by simp [hsz]) hfuel hrel ⟨he'.size, fun q s d' hq hf' => ?_, fun s d' hs' => ?_, ?_, ?_, fun q c s hq hc hnx => ?_, fun q c s c' s' hq hq' hc' => ?_, fun q B hB hal => ?_⟩ hd'
        · by_cases hji : i = q
          · subst hji
            rw [q1] at hf'; cases hf'
            exact ⟨u, hu, DLe.tok _ _ hv, fun hc => by rw [htk] at hc; simp at hc⟩
          · rw [getD_setF hji] at hq
            obtain ⟨u2, hu2, hv2, _⟩ := hI.made q s d' hq hf'
            refine ⟨u2, hfr s u2 (fun e => ?_) hu2, hv2.mono hle', fun hc => by rw [htk] at hc; simp at hc⟩
            rw [q2] at e; cases e
            exact hji (hone i q t _ d' q1 hf')
        · obtain ⟨u2, hu2, hv2⟩ := hI.base s d' hs'
          refine ⟨u2, hfr s u2 (fun e => ?_) hu2, hv2.mono hle'⟩
          rw [q2] at e; cases e
          exact (h2 t d' hs').1 (t, _) (hmem q1) rfl
        · rw [boxes_same qn]; exact hI.sep.setT t'
        · intro q B hB hst
          obtain ⟨hjl, _⟩ := List.getElem?_eq_some_iff.1 hB
          obtain ⟨w1, w2⟩ := boxB_of qn hB (by omega)
          rw [getD_setF w2.symm] at hst
          rw [getD_setF w1.symm]; exact hI.ord q B hB hst
        · by_cases hq0 : q = 0
          · subst hq0
            rw [h0c] at hq; cases hq
            exact ⟨xs, kk, t', u, q1, hu, hv, e2, by simp, hI.sep.T0 e1⟩
          · have hci : c ≠ i := fun e => by
              subst e
              exact hq0 (once_of h4 q 0 c (by rw [List.getElem?_map, hq]; rfl) (by rw [List.getElem?_map, h0c]; rfl))
            rw [getD_setF (Ne.symm hci)] at hc
            have := cord_down hI.cord q 0 i t c s h0c (by rw [Nat.zero_add]; exact hq) hc
            rw [hunl] at this; cases this
        · have hci : c' ≠ i := fun e => by
            subst e
            have := once_of h4 (q + 1) 0 c' (by rw [List.getElem?_map, hq']; rfl) (by rw [List.getElem?_map, h0c]; rfl)
            omega
          rw [getD_setF (Ne.symm hci)] at hc'
          have h5 := hI.cord q c s c' s' hq hq' hc'
          by_cases hcc : i = c
          · subst hcc; exact hself
          · rw [getD_setF hcc]; exact h5
        · obtain ⟨hjl, _⟩ := List.getElem?_eq_some_iff.1 hB
          rw [getD_setF (boxB_of qn hB (by omega)).1.symm] at hal
          obtain ⟨u2, hu2, hv2⟩ := hI.box q B hB hal
          refine ⟨u2, hfr _ u2 (fun e => ?_) hu2, hv2.mono hle'⟩
          rw [q2] at e; cases e
          exact hbox i _ _ B q1 (List.mem_of_getElem? hB) rfl
      | chainS j t kk k0 s0 kk0 xs xs0 env q1 hc0 hc1 htk q2 q3 qn hg hdp hz0 hb0 hok q7 =>
        have hE := hER env q7
        simp only [ho, guardIs_ok hE (g_none hg), if_true]
        left
        have hunl : L.getD i false = false := by
          simp only [Array.getD_eq_getD_getElem?, Array.getElem?_eq_getElem (show i < L.size by omega), Option.getD_some] at hiu ⊢; exact hiu
        obtain ⟨e0, he0, hbi0, heq0⟩ := hdp
        have hk0 : L.getD k0 false = true := by rw [← heq0]; exact hdep e0 he0 hbi0
        obtain ⟨xs1, kk1, t0, u0, r1, r2, r3, r4, r5, r6⟩ := hI.chn j k0 s0 hc0 hk0 (fun c' s' h' => by rw [hc1] at h'; cases h'; exact hunl)
        have hxs : xs1 = xs0 ∧ kk1 = kk0 := by
          rcases q7 s0 _ hz0 with ⟨e, _, _, hf⟩ | hb
          · have hek := hone e.on k0 s0 _ _ hf r1
            rw [hek, r1] at hf
            simp only [Option.some.injEq, Prod.mk.injEq, D.row.injEq, true_and, and_true] at hf
            exact hf
          · rw [hb0] at hb; cases hb
        obtain ⟨rfl, rfl⟩ := hxs
        have hEs : ER G n ((s0, .row xs1 kk1 t0) :: env) a.tmps := ⟨hE.size, fun s d' hz => by
          unfold zlook at hz
          split at hz
          · rename_i q; cases hz; subst q; exact ⟨u0, r2, r3⟩
          · exact hE.at_ s d' hz⟩
        have hz := hok cur t0 (fun env' st' => ∃ t', cur.T t' = false ∧ t' ≠ 0 ∧ env' = (t, .row xs kk t') :: (s0, .row xs1 kk1 t0) :: env ∧ st' = (cur.setT t0 false).setT t' true) r5 fun t' e1 e2 => ⟨t', e1, e2, rfl, rfl⟩
        refine hz G w a hr hEs hdf _ _ fun G' env' st' a' w' hle' hrel he' hd' hK hfr => ?_
        obtain ⟨t', e1, e2, rfl, rfl⟩ := hK
        obtain ⟨u, hu, hv⟩ := he'.at_ t (.row xs kk t') (by unfold zlook; simp)
        refine ih _ G' w' a' ((cur.setT t0 false).setT t' true) ids (hle.trans hle') (by simp [hsz]) hfuel hrel ⟨he'.size, fun q s d' hq hf' => ?_, fun s d' hs' => ?_, ?_, ?_, fun q c s hq hc hnx => ?_, fun q c s c' s' hq hq' hc' => ?_, fun q B hB hal => ?_⟩ hd'
        · by_cases hji : i = q
          · subst hji
            rw [q1] at hf'; cases hf'
            exact ⟨u, hu, DLe.tok _ _ hv, fun hc => by rw [htk] at hc; simp at hc⟩
          · rw [getD_setF hji] at hq
            obtain ⟨u2, hu2, hv2, _⟩ := hI.made q s d' hq hf'
            refine ⟨u2, hfr s u2 (fun e => ?_) hu2, hv2.mono hle', fun hc => by rw [htk] at hc; simp at hc⟩
            rw [q2] at e; cases e
            exact hji (hone i q t _ d' q1 hf')
        · obtain ⟨u2, hu2, hv2⟩ := hI.base s d' hs'
          refine ⟨u2, hfr s u2 (fun e => ?_) hu2, hv2.mono hle'⟩
          rw [q2] at e; cases e
          exact (h2 t d' hs').1 (t, _) (hmem q1) rfl
        · rw [boxes_same qn]; exact (hI.sep.setTa r6 false).setT t'
        · intro q B hB hst
          obtain ⟨hjl, _⟩ := List.getElem?_eq_some_iff.1 hB
          obtain ⟨w1, w2⟩ := boxB_of qn hB (by omega)
          rw [getD_setF w2.symm] at hst
          rw [getD_setF w1.symm]; exact hI.ord q B hB hst
        · rcases Nat.lt_trichotomy q (j + 1) with hqj | hqj | hqj
          · exfalso
            obtain ⟨p, hp⟩ : ∃ p, ch[q + 1]? = some p := by
              obtain ⟨hl, _⟩ := List.getElem?_eq_some_iff.1 hc1
              exact ⟨_, List.getElem?_eq_getElem (show q + 1 < ch.length by omega)⟩
            have hnp := hnx p.1 p.2 hp
            by_cases hqe : q = j
            · subst hqe
              rw [hc1] at hp; cases hp
              rw [hself] at hnp; cases hnp
            · have h5 := cord_down hI.cord (j - (q + 1)) (q + 1) p.1 p.2 k0 s0 hp (by rw [show q + 1 + (j - (q + 1)) = j by omega]; exact hc0) hk0
              by_cases hpi : i = p.1
              · rw [← hpi, hself] at hnp; cases hnp
              · rw [getD_setF hpi, h5] at hnp; cases hnp
          · subst hqj
            rw [hc1] at hq; cases hq
            exact ⟨xs, kk, t', u, q1, hu, hv, e2, by simp, hI.sep.T0 e1⟩
          · exfalso
            have hci : c ≠ i := fun e => by
              subst e
              have := once_of h4 q (j + 1) c (by rw [List.getElem?_map, hq]; rfl) (by rw [List.getElem?_map, hc1]; rfl)
              omega
            rw [getD_setF (Ne.symm hci)] at hc
            have := cord_down hI.cord (q - (j + 1)) (j + 1) i t c s hc1 (by rw [show j + 1 + (q - (j + 1)) = q by omega]; exact hq) hc
            rw [hunl] at this; cases this
        · by_cases hci : i = c'
          · subst hci
            have hqj := once_of h4 (q + 1) (j + 1) i (by rw [List.getElem?_map, hq']; rfl) (by rw [List.getElem?_map, hc1]; rfl)
            have hqj' : q = j := by omega
            subst hqj'
            rw [hc0] at hq; cases hq
            by_cases hcc : i = k0
            · rw [← hcc]; exact hself
            · rw [getD_setF hcc]; exact hk0
          · rw [getD_setF hci] at hc'
            have h5 := hI.cord q c s c' s' hq hq' hc'
            by_cases hcc : i = c
            · subst hcc; exact hself
            · rw [getD_setF hcc]; exact h5
        · obtain ⟨hjl, _⟩ := List.getElem?_eq_some_iff.1 hB
          rw [getD_setF (boxB_of qn hB (by omega)).1.symm] at hal
          obtain ⟨u2, hu2, hv2⟩ := hI.box q B hB hal
          refine ⟨u2, hfr _ u2 (fun e => ?_) hu2, hv2.mono hle'⟩
          rw [q2] at e; cases e
          exact hbox i _ _ B q1 (List.mem_of_getElem? hB) rfl
def ZFlatU (P : Program) (w0 : World) (n : Nat) (ops : Array Oper) (b : Env) (tk : List Nat) (ch : List (Nat × Nat)) (bx : List Box) (k : Nat) (done : List (Option (Nat × D))) (l : List Oper) (C : List (Option (Nat × D)) → Prop) : Prop := ∃ fin, FlatU P w0 n ops b tk ch bx k done l fin ∧ C fin
theorem zu_nil {k : Nat} {done : List (Option (Nat × D))} {C : List (Option (Nat × D)) → Prop} (h : C done) : ZFlatU P w0 n ops b tk ch bx k done [] C := ⟨done, .nil, h⟩
theorem zu_cons {k t : Nat} {done : List (Option (Nat × D))} {o : Oper} {rest : List Oper} {d : D} {C : List (Option (Nat × D)) → Prop} (hd : o.dst = some t) (ht : Nat.ble (t + 1) n = true) (hz : (o.after.toList.all fun e => !Region.binds .any e || Nat.blt e.on k) = true) (hn : boxB bx k bx.length = true) (hch : chB ch k = true)
    (hg : guardIs ops (pickU k done b o.after.toList) o true) (hok : FOk P w0 n o tk t d (pickU k done b o.after.toList))
    (h : ZFlatU P w0 n ops b tk ch bx (k + 1) (some (t, d) :: done) rest C) : ZFlatU P w0 n ops b tk ch bx k done (o :: rest) C := by
  obtain ⟨fin, h1, h2⟩ := h
  exact ⟨fin, .cons hd ht hz hn hch hg hok h1, h2⟩
theorem zu_alloc {k j ty kk by_ : Nat} {B : Box} {done : List (Option (Nat × D))} {o : Oper} {rest : List Oper} {C : List (Option (Nat × D)) → Prop} (hj : bx[j]? = some B) (hop : o.op = .alloc ty) (hd : o.dst = some B.slot) (ht : Nat.ble (B.slot + 1) n = true) (hz : (o.after.toList.all fun e => !Region.binds .any e || Nat.blt e.on k) = true)
    (hal : B.al = k) (hs : Nat.beq B.sto k = false) (hn : boxB bx k j = true) (hch : chB ch k = true) (hg : o.guard = none) (he : ElemOk P ty kk by_ B.z) (hz1 : ∀ d ∈ B.z, oneD d = true)
    (h : ZFlatU P w0 n ops b tk ch bx (k + 1) (none :: done) rest C) : ZFlatU P w0 n ops b tk ch bx k done (o :: rest) C := by
  obtain ⟨fin, h1, h2⟩ := h
  exact ⟨fin, .alloc hop hd ht hz hj hal (Nat.ne_of_beq_eq_false hs) hn hch hg he hz1 h1, h2⟩
theorem zu_store {k j ty kk : Nat} {ag : Bool} {B : Box} {done : List (Option (Nat × D))} {o : Oper} {rest : List Oper} {y : Operand} {d : D} {C : List (Option (Nat × D)) → Prop} (hj : bx[j]? = some B) (hop : o.op = .store ty (.tmp B.slot) y) (hd : o.dst = none) (hz : (o.after.toList.all fun e => !Region.binds .any e || Nat.blt e.on k) = true)
    (hal : Nat.beq B.al k = false) (hs : B.sto = k) (hn : boxB bx k j = true) (hch : chB ch k = true) (hg : o.guard = none) (hdep : (o.after.toList.any fun e => Region.binds .any e && Nat.beq e.on B.al) = true)
    (hy : ev (pickU k done b o.after.toList) y = some d) (hsh : shapeIs P ty ag kk) (hc : cellsD d = B.d) (hk : (cellsD d).length = kk) (h1 : ∀ c ∈ cellsD d, oneD c = true) (hl : B.z.length = kk)
    (h : ZFlatU P w0 n ops b tk ch bx (k + 1) (none :: done) rest C) : ZFlatU P w0 n ops b tk ch bx k done (o :: rest) C := by
  obtain ⟨fin, q1, q2⟩ := h
  exact ⟨fin, .store hop hd hz hj (Nat.ne_of_beq_eq_false hal) hs hn hch hg hdep hy hsh hk h1 hl hc q1, q2⟩
def endB (m : Nat) (ids : Nat → Nat) : Nat → List Box → List (Option Nat × List D)
  | _, [] => []
  | j, B :: r => (some (ids j), if Nat.blt B.sto m = true then B.d else B.z) :: endB m ids (j + 1) r
def endE (ids : Nat → Nat) : Nat → List Box → Env
  | _, [] => []
  | j, B :: r => (B.slot, .ptr (ids j) 0) :: endE ids (j + 1) r
theorem endB_get (m : Nat) (ids : Nat → Nat) : ∀ (r : List Box) (j i : Nat), (endB m ids j r)[i]? = r[i]?.map fun B => (some (ids (j + i)), if Nat.blt B.sto m = true then B.d else B.z)
  | [], j, i => by simp [endB]
  | B :: r, j, 0 => by simp [endB]
  | B :: r, j, i + 1 => by
    unfold endB
    rw [List.getElem?_cons_succ, endB_get m ids r (j + 1) i, List.getElem?_cons_succ, show j + 1 + i = j + (i + 1) by omega]
theorem endE_eq (ids : Nat → Nat) : ∀ (r : List Box) (j : Nat), endE ids j r = (List.range r.length).filterMap fun i => r[i]?.map fun B => (B.slot, D.ptr (ids (j + i)) 0)
  | [], j => rfl
  | B :: r, j => by
    unfold endE
    rw [List.length_cons, List.range_succ_eq_map, List.filterMap_cons]
    simp only [List.getElem?_cons_zero, Option.map_some, Nat.add_zero, List.filterMap_map]
    rw [endE_eq ids r (j + 1)]
    rw [show (fun i => r[i]?.map fun B => (B.slot, D.ptr (ids (j + 1 + i)) 0)) = ((fun i => Option.map (fun B => (B.slot, D.ptr (ids (j + i)) 0)) (B :: r)[i]?) ∘ Nat.succ) from funext fun i => by
      simp only [Function.comp, Nat.succ_eq_add_one, List.getElem?_cons_succ, show j + 1 + i = j + (i + 1) by omega]]
theorem endB_eq {m : Nat} {ids : Nat → Nat} (h : ∀ B ∈ bx, B.al < m) : boxesAt bx (Array.replicate m true) ids = endB m ids 0 bx := by
  refine List.ext_getElem? fun i => ?_
  rw [endB_get]
  cases hb : bx[i]? with
  | none =>
    have h1 : bx.length ≤ i := List.getElem?_eq_none_iff.1 hb
    rw [List.getElem?_eq_none (by simp [boxesAt, h1])]; rfl
  | some B =>
    rw [boxes_get hb]
    have h1 : (Array.replicate m true).getD B.al false = true := by
      rw [Array.getD_eq_getD_getElem?, Array.getElem?_replicate, if_pos (h B (List.mem_of_getElem? hb))]; rfl
    have h2 : (Array.replicate m true).getD B.sto false = Nat.blt B.sto m := by
      rw [Array.getD_eq_getD_getElem?, Array.getElem?_replicate]
      by_cases h3 : B.sto < m
      · rw [if_pos h3, show Nat.blt B.sto m = true by rw [Nat.blt_eq]; exact h3]; rfl
      · rw [if_neg h3]
        cases h4 : Nat.blt B.sto m with
        | false => rfl
        | true => rw [Nat.blt_eq] at h4; exact absurd h4 h3
    unfold boxAt
    rw [h1, h2, Nat.zero_add]
    simp
/-- A region that draws its order, with variables in it. -/
theorem zr_flatUK {id' : Nat} {l : List Oper} {K : Env → St → Prop} {Q1 : ZPost} {env : Env} {st : St} (b : Env) (tk : List Nat) (ch : List (Nat × Nat)) (bx : List Box) (hm : P.follows .mixedOrders = true) (hb : Sub b env)
    (h : ZFlatU P w0 n l.toArray b tk ch bx 0 [] l fun fin => onceB ((fin.filterMap id).map Prod.fst ++ bx.map Box.slot) = true ∧ (b.all fun p => (fin.filterMap id).all (fun q => !Nat.beq q.1 p.1) && bx.all (fun B => !Nat.beq B.slot p.1) && !tk.contains p.1) = true ∧ (bx.all fun B => Nat.blt B.al l.length) = true ∧ onceB (ch.map Prod.fst) = true ∧
      ∀ cur ids, Sep st cur (endB l.length ids 0 bx) → K (fin.filterMap id ++ (endE ids 0 bx ++ b)) cur) : ZWp P w0 n (.region id' l.toArray true) (Zthen K Q1) env st := by
  obtain ⟨fin, hF, h1, h2, h3, h4, hk⟩ := h
  have h3' : ∀ B ∈ bx, B.al < l.length := fun B hB => by have := List.all_eq_true.1 h3 B hB; rwa [Nat.blt_eq] at this
  intro G w a hr he hd
  refine wp_region_any hm (flatU_main (st := st) G rfl hF h1 (fun s d hs => ?_) h3' h4 (fun cur ids hS => ?_) _ _ G _ a st (fun _ => 0) (.refl G) (by simp) (by
    refine Nat.le_trans (List.length_filter_le _ _) (by simp)) (hr.drawn _) ⟨he.size, fun j s d hj => ?_, fun s d hs => he.at_ s d (hb s d hs), ?_, fun j B hB hs => ?_, fun i c s hi hc => ?_, fun i c s c' s' hi hi' hc => ?_, fun j B hB hal => ?_⟩ hd)
  · have := List.all_eq_true.1 h2 _ (zlook_mem hs)
    simp only [Bool.and_eq_true, List.all_eq_true, Bool.not_eq_true'] at this
    exact ⟨fun p hp => Nat.ne_of_beq_eq_false (this.1.1 p hp), fun B hB => Nat.ne_of_beq_eq_false (this.1.2 B hB), this.2⟩
  · have := hk cur ids (by rw [← endB_eq h3']; exact hS)
    rw [endE_eq] at this
    simp only [Nat.zero_add] at this
    exact this
  · rw [Array.getD_eq_getD_getElem?] at hj
    by_cases hjl : j < l.length
    · simp [hjl] at hj
    · simp [hjl] at hj
  · have e : boxesAt bx (Array.replicate l.toArray.size false) (fun _ => 0) = List.replicate bx.length (none, []) := by
      refine List.ext_getElem? fun i => ?_
      cases hbi : bx[i]? with
      | none =>
        have h1 : bx.length ≤ i := List.getElem?_eq_none_iff.1 hbi
        rw [List.getElem?_eq_none (by simp [boxesAt, h1]), List.getElem?_eq_none (by simp [h1])]
      | some B =>
        obtain ⟨hl, _⟩ := List.getElem?_eq_some_iff.1 hbi
        rw [boxes_get hbi, List.getElem?_replicate, if_pos hl]
        unfold boxAt
        rw [if_neg]
        rw [Array.getD_eq_getD_getElem?]
        by_cases hh : B.al < l.length <;> simp [hh]
    rw [e]
    have : ∀ q : Nat, Sep st st (List.replicate q (none, [])) := fun q => by
      induction q with
      | zero => exact Sep.nil st
      | succ q ih => exact ih.addNone []
    exact this _
  · rw [Array.getD_eq_getD_getElem?] at hs
    by_cases hjl : B.sto < l.length
    · simp [hjl] at hs
    · simp [hjl] at hs
  · rw [Array.getD_eq_getD_getElem?] at hc
    by_cases hjl : c < l.length
    · simp [hjl] at hc
    · simp [hjl] at hc
  · rw [Array.getD_eq_getD_getElem?] at hc
    by_cases hjl : c' < l.length
    · simp [hjl] at hc
    · simp [hjl] at hc
  · rw [Array.getD_eq_getD_getElem?] at hal
    by_cases hjl : B.al < l.length
    · simp [hjl] at hal
    · simp [hjl] at hal
end
end Go.Proofs.Zm
/- The framework's forty-fifth part: struct arguments of a row, how long a row of eight-byte numbers is at most. -/
namespace Go.Proofs.Zm
open Go.RowKit Go.ChangeShapes Go.WideShapes
set_option linter.unusedVariables false
theorem vr_agg {G : Gh} {ds : List D} {a : Array Value} (h : VRs G ds a.toList) : VR G (.agg ds) (.agg a) := by
  exact .agg ds a.toList h.1 h.2
theorem row_lenB {H : Type} {enc : TypeId × Value → H} {P : Program} {W : World} {base : Nat} {held : Bool} {t e : TypeId} {a : Option Addr} {len cap b : Nat} {d : DataW H} {ps : List MemPlace} {ts : List TypeId} {ds : List (DataW H)} {j : Nat}
    (hsz : (DataW.weightsEach P ts ds).all (· ≤ reachBytes) = true) (ht : ts[j]? = some t) (hd : ds[j]? = some d) (hu : P.underlying t = some (.slice e)) (hB : P.bytesOf e = b)
    (h : DataW.Trod enc P W base (fun _ => true) held t (.slice a len cap) d ps) : len * b ≤ 140737488351232 := by
  subst hB
  obtain ⟨fuel, hf⟩ := h
  rcases DataW.trod_slice hu hf with ⟨hcs, _⟩ | ⟨a', len', cap', elems, rest, n', _, hcs, hx, _, hl, _, hel, _⟩
  · simp [Value.cells] at hcs
    obtain ⟨_, rfl, _⟩ := hcs
    omega
  · simp [Value.cells] at hcs
    obtain ⟨rfl, rfl, rfl⟩ := hcs
    obtain ⟨hx, _⟩ := Prod.mk.inj hx
    subst hx
    have z := sized_slice hsz ht hd hu
    simp only [reachBytes, List.length_map] at z
    have : len * P.bytesOf e ≤ (elems.length + rest.length) * P.bytesOf e := by
      rw [hel]
      exact Nat.mul_le_mul_right _ (Nat.le_add_right _ _)
    omega
end Go.Proofs.Zm
/- The framework's fifty-second part: a result told less sharply. -/
namespace Go.Proofs.Zm
open Go.RowKit
theorem PureS.imp {P : Program} {f : FuncId} {es : List D} {S S' : D → Prop} (h : PureS P f es S) (hi : ∀ d, S d → S' d) : PureS P f es S' :=
  SoundF.weaken h fun args st K ⟨e, hK⟩ => ⟨e, fun d hd => hK d (hi d hd)⟩
end Go.Proofs.Zm
