/- The framework's twenty-second part: variables that are written once, memory given away with kept slots, pointers and nil by the operation's form. -/
import Derived.Test.YtpelekdimmfldaaZm21
namespace Go.Proofs.Zm
open Go.RowKit
set_option linter.unusedVariables false

section
variable {P : Program} {w0 : World} {n : Nat} {env : Env} {st : St} {Q Q1 : ZPost} {ops : Array Oper} {t : Nat} {rest : List Oper} {x y z : Operand} {t1 t2 ty ty2 : TypeId} {pos pos2 : String} {after after2 : Array Edge}

/-- A variable that is written once, at its beginning. -/
theorem zs_allocRef {k by_ : Nat} {zz : List D} {d : D} {ag : Bool} (he : ElemOk P t1 k by_ zz) (hz1 : ∀ d ∈ zz, oneD d = true) (hs : shapeIs P t1 ag k) (ht : Nat.ble (t + 1) n = true) (hy : ∀ a : Nat, ev ((t, .ptr a 0) :: env) y = some d) (hk : (cellsD d).length = k) (h1 : ∀ c ∈ cellsD d, oneD c = true)
    (h : ZOps P w0 n ops rest Q ((t, .ref (cellsD d)) :: env) st) :
    ZOps P w0 n ops (⟨some t, .alloc t1, ty, pos, after, none⟩ :: ⟨none, .store t1 (.tmp t) y, ty2, pos2, after2, none⟩ :: rest) Q env st := by
  have hzl : zz.length = k := by
    obtain ⟨i, zv, _, _, _, _, hz, rfl⟩ := he.ex
    have := (cellsD_ok (VR.v (G := ⟨fun _ => none, fun _ => 0, fun _ => (0, 0, 0), 1⟩) zv)).1
    rw [this]; simpa using hz
  refine zo_val rfl rfl (Nat.le_of_ble_eq_true ht) (zv_alloc rfl he hz1 fun a ha => ?_)
  refine zs_store (id := a) (off := 0) (ag := ag) (k := k) (cs' := cellsD d) (by simp [ev, zlook]) (hy a) hs (St.setH_self _ _ _) hk h1 (by omega) ?_ ?_
  · simp [hzl, hk]
  rw [St.setH_setH]
  refine zo_freeze (id := a) ((t, .ref (cellsD d)) :: env) (St.setH_self _ _ _) ?_ ?_
  · intro s d' e
    unfold zlook at e
    split at e
    · rename_i hts; subst hts; cases e
      exact ⟨.ptr a 0, by simp [zlook], Frz.ptr 0⟩
    · rename_i hts
      exact ⟨d', by simp [zlook, hts, e], .same _⟩
  rw [St.setH_setH, St.setH_none ha.1]
  exact h

/-- Memory that is given away for reading, by kept slots. -/
def FrzK (id : Nat) (cs : List D) (env : Env) (ks : List Nat) (env' : Env) : Prop := FrzE id cs env' env
theorem fzk_nil {id : Nat} {cs : List D} : FrzK id cs env [] [] := fz_nil
theorem fzk_cons {id k : Nat} {cs : List D} {ks : List Nat} {d d' : D} {r : Env} (h : zlook env k = some d) (hf : Frz id cs d d') (hs : FrzK id cs env ks r) : FrzK id cs env (k :: ks) ((k, d') :: r) := fz_cons h hf hs
theorem fzk_skip {id k : Nat} {cs : List D} {ks : List Nat} {r : Env} (hs : FrzK id cs env ks r) : FrzK id cs env (k :: ks) r := hs
theorem zr_freezeK {c : Code} {id : Nat} {cs : List D} {st1 : St} (ks : List Nat) {env' : Env} (hH : st.H id = some cs) (hE : FrzK id cs env ks env') (hs : st.setH id none = st1) (h : ZWp P w0 n c Q env' st1) : ZWp P w0 n c Q env st := by
  subst hs; exact zr_freeze env' hH hE h
theorem zo_freezeK {l : List Oper} {id : Nat} {cs : List D} {st1 : St} (ks : List Nat) {env' : Env} (hH : st.H id = some cs) (hE : FrzK id cs env ks env') (hs : st.setH id none = st1) (h : ZOps P w0 n ops l Q env' st1) : ZOps P w0 n ops l Q env st := by
  subst hs; exact zo_freeze env' hH hE h

/-- Pointers and nil. -/
theorem zs_peq_ptr {id off : Nat} (ht : Nat.ble (t + 1) n = true) (hx : ev env x = some (.ptr id off)) (ht1 : P.underlying t1 = some (.pointer (P.pointee t1))) (hk : ZOps P w0 n ops rest Q ((t, .v (.bool false)) :: env) st) :
    ZOps P w0 n ops (⟨some t, .binOp .eql t1 x (.const (.pointer none)) t2, ty, pos, after, none⟩ :: rest) Q env st := zo_pure0 rfl rfl (Nat.le_of_ble_eq_true ht) (zp_ptr_nil rfl hx ht1 (.inl ⟨rfl, rfl⟩) (.inl ⟨_, _, rfl⟩)) hk
theorem zs_peq_ref {cs : List D} (ht : Nat.ble (t + 1) n = true) (hx : ev env x = some (.ref cs)) (ht1 : P.underlying t1 = some (.pointer (P.pointee t1))) (hk : ZOps P w0 n ops rest Q ((t, .v (.bool false)) :: env) st) :
    ZOps P w0 n ops (⟨some t, .binOp .eql t1 x (.const (.pointer none)) t2, ty, pos, after, none⟩ :: rest) Q env st := zo_pure0 rfl rfl (Nat.le_of_ble_eq_true ht) (zp_ptr_nil rfl hx ht1 (.inl ⟨rfl, rfl⟩) (.inr ⟨_, rfl⟩)) hk
theorem zs_pne_ptr {id off : Nat} (ht : Nat.ble (t + 1) n = true) (hx : ev env x = some (.ptr id off)) (ht1 : P.underlying t1 = some (.pointer (P.pointee t1))) (hk : ZOps P w0 n ops rest Q ((t, .v (.bool true)) :: env) st) :
    ZOps P w0 n ops (⟨some t, .binOp .neq t1 x (.const (.pointer none)) t2, ty, pos, after, none⟩ :: rest) Q env st := zo_pure0 rfl rfl (Nat.le_of_ble_eq_true ht) (zp_ptr_nil rfl hx ht1 (.inr ⟨rfl, rfl⟩) (.inl ⟨_, _, rfl⟩)) hk
theorem zs_pne_ref {cs : List D} (ht : Nat.ble (t + 1) n = true) (hx : ev env x = some (.ref cs)) (ht1 : P.underlying t1 = some (.pointer (P.pointee t1))) (hk : ZOps P w0 n ops rest Q ((t, .v (.bool true)) :: env) st) :
    ZOps P w0 n ops (⟨some t, .binOp .neq t1 x (.const (.pointer none)) t2, ty, pos, after, none⟩ :: rest) Q env st := zo_pure0 rfl rfl (Nat.le_of_ble_eq_true ht) (zp_ptr_nil rfl hx ht1 (.inr ⟨rfl, rfl⟩) (.inr ⟨_, rfl⟩)) hk
/-- A row, compared with nil, is not told. The length of an own row; an own row's cut. -/
theorem zs_len_mrow {e : TypeId} {id off m c : Nat} (ht : Nat.ble (t + 1) n = true) (hx : ev env x = some (.mrow id off m c)) (ht1 : P.underlying t1 = some (.slice e)) (hk : ZOps P w0 n ops rest Q ((t, .v (.int .i64 (m : Nat))) :: env) st) :
    ZOps P w0 n ops (⟨some t, .call { callee := .builtin .len, args := #[x], argTypes := #[t1] }, ty, pos, after, none⟩ :: rest) Q env st := zo_pure0 rfl rfl (Nat.le_of_ble_eq_true ht) (zp_len_mrow rfl ht1 hx) hk
end
end Go.Proofs.Zm
