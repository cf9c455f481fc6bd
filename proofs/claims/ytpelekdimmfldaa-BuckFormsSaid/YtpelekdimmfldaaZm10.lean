/- The framework's tenth part: rules by the operation's own form, for 'apply'. -/
import Derived.Test.YtpelekdimmfldaaZm9
namespace Go.Proofs.Zm
open Go.RowKit
set_option linter.unusedVariables false

section
variable {P : Program} {w0 : World} {n : Nat} {env : Env} {st : St} {Q : ZPost} {ops : Array Oper} {t : Nat} {rest : List Oper} {x y c : Operand} {t1 t2 ty : TypeId} {pos : String} {after : Array Edge}

theorem zs_move {d : D} (ht : Nat.ble (t + 1) n = true) (hx : ev env x = some d) (hk : ZOps P w0 n ops rest Q ((t, d) :: env) st) : ZOps P w0 n ops (⟨some t, .move x, ty, pos, after, none⟩ :: rest) Q env st :=
  zo_pure0 rfl rfl (Nat.le_of_ble_eq_true ht) (zp_move rfl hx) hk
theorem zs_assign {d : D} (ht : Nat.ble (t + 1) n = true) (hx : ev env x = some d) (hk : ZOps P w0 n ops rest Q ((t, d) :: env) st) : ZOps P w0 n ops (⟨some t, .assign x, ty, pos, after, none⟩ :: rest) Q env st :=
  zo_pure0 rfl rfl (Nat.le_of_ble_eq_true ht) (zp_assign rfl hx) hk
theorem zs_not {b : Bool} (ht : Nat.ble (t + 1) n = true) (hx : ev env x = some (.v (.bool b))) (hk : ZOps P w0 n ops rest Q ((t, .v (.bool (!b))) :: env) st) : ZOps P w0 n ops (⟨some t, .unOp .not t1 x, ty, pos, after, none⟩ :: rest) Q env st :=
  zo_pure0 rfl rfl (Nat.le_of_ble_eq_true ht) (zp_not rfl hx) hk
theorem zs_extract {i : Nat} {ds : List D} {d : D} (ht : Nat.ble (t + 1) n = true) (hx : ev env x = some (.tup ds)) (hd : ds[i]? = some d) (hk : ZOps P w0 n ops rest Q ((t, d) :: env) st) : ZOps P w0 n ops (⟨some t, .extract x i, ty, pos, after, none⟩ :: rest) Q env st :=
  zo_pure0 rfl rfl (Nat.le_of_ble_eq_true ht) (zp_extract rfl hx hd) hk
theorem zs_pick_t {b : Bool} {d : D} (ht : Nat.ble (t + 1) n = true) (hc : ev env c = some (.v (.bool b))) (hb : b = true) (hx : ev env x = some d) (hk : ZOps P w0 n ops rest Q ((t, d) :: env) st) : ZOps P w0 n ops (⟨some t, .pick c x y, ty, pos, after, none⟩ :: rest) Q env st :=
  zo_pure0 rfl rfl (Nat.le_of_ble_eq_true ht) (zp_pick_t rfl hc hb hx) hk
theorem zs_pick_f {b : Bool} {d : D} (ht : Nat.ble (t + 1) n = true) (hc : ev env c = some (.v (.bool b))) (hb : b = false) (hy : ev env y = some d) (hk : ZOps P w0 n ops rest Q ((t, d) :: env) st) : ZOps P w0 n ops (⟨some t, .pick c x y, ty, pos, after, none⟩ :: rest) Q env st :=
  zo_pure0 rfl rfl (Nat.le_of_ble_eq_true ht) (zp_pick_f rfl hc hb hy) hk
theorem zs_yes {dst : Option Tmp} {op : Op} {j t : Nat} {want b : Bool}
    (hj : (ops[j]?).bind (·.dst) = some t) (hb : zlook env t = some (.v (.bool b))) (hw : b = want)
    (h : ZOps P w0 n ops (⟨dst, op, ty, pos, after, none⟩ :: rest) Q env st) : ZOps P w0 n ops (⟨dst, op, ty, pos, after, some (j, want)⟩ :: rest) Q env st := zo_yes hj hb hw h
theorem zs_no {dst : Option Tmp} {op : Op} {j t : Nat} {want b : Bool}
    (hj : (ops[j]?).bind (·.dst) = some t) (hb : zlook env t = some (.v (.bool b))) (hw : b = !want)
    (h : ZOps P w0 n ops rest Q (dropE env dst) st) : ZOps P w0 n ops (⟨dst, op, ty, pos, after, some (j, want)⟩ :: rest) Q env st := zo_no hj hb hw h
section
variable {k k' : IntKind} {a b r : Int}
theorem zs_lss (ht : Nat.ble (t + 1) n = true) (hx : ev env x = some (.v (.int k a))) (hy : ev env y = some (.v (.int k b))) (hk : ZOps P w0 n ops rest Q ((t, .v (.bool (decide (a < b)))) :: env) st) :
    ZOps P w0 n ops (⟨some t, .binOp .lss t1 x y t2, ty, pos, after, none⟩ :: rest) Q env st := zo_pure0 rfl rfl (Nat.le_of_ble_eq_true ht) (zp_lss rfl hx hy) hk
theorem zs_leq (ht : Nat.ble (t + 1) n = true) (hx : ev env x = some (.v (.int k a))) (hy : ev env y = some (.v (.int k b))) (hk : ZOps P w0 n ops rest Q ((t, .v (.bool (decide (a ≤ b)))) :: env) st) :
    ZOps P w0 n ops (⟨some t, .binOp .leq t1 x y t2, ty, pos, after, none⟩ :: rest) Q env st := zo_pure0 rfl rfl (Nat.le_of_ble_eq_true ht) (zp_leq rfl hx hy) hk
theorem zs_gtr (ht : Nat.ble (t + 1) n = true) (hx : ev env x = some (.v (.int k a))) (hy : ev env y = some (.v (.int k b))) (hk : ZOps P w0 n ops rest Q ((t, .v (.bool (decide (b < a)))) :: env) st) :
    ZOps P w0 n ops (⟨some t, .binOp .gtr t1 x y t2, ty, pos, after, none⟩ :: rest) Q env st := zo_pure0 rfl rfl (Nat.le_of_ble_eq_true ht) (zp_gtr rfl hx hy) hk
theorem zs_geq (ht : Nat.ble (t + 1) n = true) (hx : ev env x = some (.v (.int k a))) (hy : ev env y = some (.v (.int k b))) (hk : ZOps P w0 n ops rest Q ((t, .v (.bool (decide (b ≤ a)))) :: env) st) :
    ZOps P w0 n ops (⟨some t, .binOp .geq t1 x y t2, ty, pos, after, none⟩ :: rest) Q env st := zo_pure0 rfl rfl (Nat.le_of_ble_eq_true ht) (zp_geq rfl hx hy) hk
theorem zs_eql (ht : Nat.ble (t + 1) n = true) (hx : ev env x = some (.v (.int k a))) (hy : ev env y = some (.v (.int k b))) (hk : ZOps P w0 n ops rest Q ((t, .v (.bool (decide (a = b)))) :: env) st) :
    ZOps P w0 n ops (⟨some t, .binOp .eql t1 x y t2, ty, pos, after, none⟩ :: rest) Q env st := zo_pure0 rfl rfl (Nat.le_of_ble_eq_true ht) (zp_eql rfl hx hy) hk
theorem zs_neq (ht : Nat.ble (t + 1) n = true) (hx : ev env x = some (.v (.int k a))) (hy : ev env y = some (.v (.int k b))) (hk : ZOps P w0 n ops rest Q ((t, .v (.bool (decide (a ≠ b)))) :: env) st) :
    ZOps P w0 n ops (⟨some t, .binOp .neq t1 x y t2, ty, pos, after, none⟩ :: rest) Q env st := zo_pure0 rfl rfl (Nat.le_of_ble_eq_true ht) (zp_neq rfl hx hy) hk
theorem zs_add (ht : Nat.ble (t + 1) n = true) (hx : ev env x = some (.v (.int k a))) (hy : ev env y = some (.v (.int k b))) (hr : k.wrap (a + b) = r) (hk : ZOps P w0 n ops rest Q ((t, .v (.int k r)) :: env) st) :
    ZOps P w0 n ops (⟨some t, .binOp .add t1 x y t2, ty, pos, after, none⟩ :: rest) Q env st := zo_pure0 rfl rfl (Nat.le_of_ble_eq_true ht) (zp_add rfl hx hy hr) hk
theorem zs_sub (ht : Nat.ble (t + 1) n = true) (hx : ev env x = some (.v (.int k a))) (hy : ev env y = some (.v (.int k b))) (hr : k.wrap (a - b) = r) (hk : ZOps P w0 n ops rest Q ((t, .v (.int k r)) :: env) st) :
    ZOps P w0 n ops (⟨some t, .binOp .sub t1 x y t2, ty, pos, after, none⟩ :: rest) Q env st := zo_pure0 rfl rfl (Nat.le_of_ble_eq_true ht) (zp_sub rfl hx hy hr) hk
theorem zs_mul (ht : Nat.ble (t + 1) n = true) (hx : ev env x = some (.v (.int k a))) (hy : ev env y = some (.v (.int k b))) (hr : k.wrap (a * b) = r) (hk : ZOps P w0 n ops rest Q ((t, .v (.int k r)) :: env) st) :
    ZOps P w0 n ops (⟨some t, .binOp .mul t1 x y t2, ty, pos, after, none⟩ :: rest) Q env st := zo_pure0 rfl rfl (Nat.le_of_ble_eq_true ht) (zp_mul rfl hx hy hr) hk
theorem zs_quo (ht : Nat.ble (t + 1) n = true) (hx : ev env x = some (.v (.int k a))) (hy : ev env y = some (.v (.int k b))) (hb : b ≠ 0) (hr : k.wrap (a.tdiv b) = r) (hk : ZOps P w0 n ops rest Q ((t, .v (.int k r)) :: env) st) :
    ZOps P w0 n ops (⟨some t, .binOp .quo t1 x y t2, ty, pos, after, none⟩ :: rest) Q env st := zo_pure0 rfl rfl (Nat.le_of_ble_eq_true ht) (zp_quo rfl hx hy hb hr) hk
theorem zs_rem (ht : Nat.ble (t + 1) n = true) (hx : ev env x = some (.v (.int k a))) (hy : ev env y = some (.v (.int k b))) (hb : b ≠ 0) (hr : a.tmod b = r) (hk : ZOps P w0 n ops rest Q ((t, .v (.int k r)) :: env) st) :
    ZOps P w0 n ops (⟨some t, .binOp .rem t1 x y t2, ty, pos, after, none⟩ :: rest) Q env st := zo_pure0 rfl rfl (Nat.le_of_ble_eq_true ht) (zp_rem rfl hx hy hb hr) hk
theorem zs_conv (ht : Nat.ble (t + 1) n = true) (hx : ev env x = some (.v (.int k a))) (ht1 : P.underlying t1 = some (.int k)) (hu : P.underlying t2 = some (.int k')) (hr : k'.wrap a = r) (hk : ZOps P w0 n ops rest Q ((t, .v (.int k' r)) :: env) st) :
    ZOps P w0 n ops (⟨some t, .convert t1 t2 x, ty, pos, after, none⟩ :: rest) Q env st := zo_pure0 rfl rfl (Nat.le_of_ble_eq_true ht) (zp_conv rfl hx ht1 hu hr) hk
end
theorem zs_len {e : TypeId} {xs : List (List D)} {k tk : Nat} (ht : Nat.ble (t + 1) n = true) (hx : ev env x = some (.row xs k tk)) (ht1 : P.underlying t1 = some (.slice e)) (hk : ZOps P w0 n ops rest Q ((t, .v (.int .i64 xs.length)) :: env) st) :
    ZOps P w0 n ops (⟨some t, .call { callee := .builtin .len, args := #[x], argTypes := #[t1] }, ty, pos, after, none⟩ :: rest) Q env st := zo_pure0 rfl rfl (Nat.le_of_ble_eq_true ht) (zp_len rfl ht1 hx) hk
theorem zs_lenB {e : TypeId} {l : List UInt8} {k tk : Nat} (ht : Nat.ble (t + 1) n = true) (hx : ev env x = some (.row (bytesD l) k tk)) (ht1 : P.underlying t1 = some (.slice e)) (hk : ZOps P w0 n ops rest Q ((t, .v (.int .i64 (l.length : Nat))) :: env) st) :
    ZOps P w0 n ops (⟨some t, .call { callee := .builtin .len, args := #[x], argTypes := #[t1] }, ty, pos, after, none⟩ :: rest) Q env st := zo_pure0 rfl rfl (Nat.le_of_ble_eq_true ht) (zp_lenB rfl ht1 hx) hk
theorem zs_len_nil {e : TypeId} {m c : Nat} (ht : Nat.ble (t + 1) n = true) (hx : ev env x = some (.v (.slice none m c))) (ht1 : P.underlying t1 = some (.slice e)) (hk : ZOps P w0 n ops rest Q ((t, .v (.int .i64 m)) :: env) st) :
    ZOps P w0 n ops (⟨some t, .call { callee := .builtin .len, args := #[x], argTypes := #[t1] }, ty, pos, after, none⟩ :: rest) Q env st := zo_pure0 rfl rfl (Nat.le_of_ble_eq_true ht) (zp_len_nil rfl ht1 hx) hk
end
end Go.Proofs.Zm
