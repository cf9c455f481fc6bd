/- The framework's twenty-first part: guarded plain operations as whole values, kept slots, loops and meeting ways by kept slots, calls by their own form. -/
import Derived.Test.YtpelekdimmfldaaZm20
namespace Go.Proofs.Zm
open Go.RowKit
set_option linter.unusedVariables false

theorem dc (p : Prop) [Decidable p] : (p ∧ decide p = true) ∨ (¬ p ∧ decide p = false) := by
  by_cases h : p
  · exact .inl ⟨h, decide_eq_true h⟩
  · exact .inr ⟨h, decide_eq_false h⟩
theorem band_l {a b : Bool} (h : (a && b) = true) : a = true := by cases a <;> simp_all
theorem band_r {a b : Bool} (h : (a && b) = true) : b = true := by cases a <;> simp_all
theorem band {a b : Bool} (h : a = true) (k : b = true) : (a && b) = true := by rw [h, k]; rfl

/-- A value that is there only if b. -/
def gd (b : Bool) (d : D) : D := bif b then d else .v undef
theorem gd_t {b : Bool} {d : D} (h : b = true) : gd b d = d := by subst h; rfl
theorem gd_f {b : Bool} {d : D} (h : b = false) : gd b d = .v undef := by subst h; rfl
attribute [irreducible] gd

/-- Whether a guarded operation is wanted. -/
def GC (ops : Array Oper) (env : Env) (j : Nat) (want c : Bool) : Prop := ∀ (G : Gh) (n : Nat) (a : Act), ER G n env a.tmps → ∀ o : Oper, o.guard = some (j, want) → Region.wanted o (yielded ops a.tmps) = c
theorem GC.t {ops : Array Oper} {env : Env} {j t : Nat} {b : Bool} (hj : (ops[j]?).bind (·.dst) = some t) (hz : zlook env t = some (.v (.bool b))) : GC ops env j true b := fun G n a he o ho => by
  have := yielded_of he hj hz
  unfold Region.wanted; rw [ho]; simp only [this]; cases b <;> rfl
theorem GC.f {ops : Array Oper} {env : Env} {j t : Nat} {b : Bool} (hj : (ops[j]?).bind (·.dst) = some t) (hz : zlook env t = some (.v (.bool b))) : GC ops env j false (!b) := fun G n a he o ho => by
  have := yielded_of he hj hz
  unfold Region.wanted; rw [ho]; simp only [this]; cases b <;> rfl
theorem yielded_undef {G : Gh} {n : Nat} {env : Env} {ops : Array Oper} {j t : Nat} {a : Act} (he : ER G n env a.tmps) (hj : (ops[j]?).bind (·.dst) = some t) (hz : zlook env t = some (.v undef)) : yielded ops a.tmps j = none := by
  obtain ⟨u, hu, hv⟩ := he.at_ t _ hz
  have e := hv.eq_v
  subst e
  simp [yielded, hj, hu, undef]
theorem GC.gt {ops : Array Oper} {env : Env} {j t : Nat} {g b : Bool} (hj : (ops[j]?).bind (·.dst) = some t) (hz : zlook env t = some (gd g (.v (.bool b)))) : GC ops env j true (g && b) := by
  cases g with
  | true => rw [gd_t rfl] at hz; exact GC.t hj hz
  | false =>
    rw [gd_f rfl] at hz
    intro G n a he o ho
    unfold Region.wanted; rw [ho]; simp only [yielded_undef he hj hz]; rfl
theorem GC.gf {ops : Array Oper} {env : Env} {j t : Nat} {g b : Bool} (hj : (ops[j]?).bind (·.dst) = some t) (hz : zlook env t = some (gd g (.v (.bool b)))) : GC ops env j false (g && !b) := by
  cases g with
  | true => rw [gd_t rfl] at hz; exact GC.f hj hz
  | false =>
    rw [gd_f rfl] at hz
    intro G n a he o ho
    unfold Region.wanted; rw [ho]; simp only [yielded_undef he hj hz]; rfl

/-- Operations that, guarded, may be taken as whole values. -/
def plainOp : Op → Bool
  | .move _ => true
  | .binOp b _ _ _ _ => match b with | .lss | .leq | .gtr | .geq | .eql | .neq | .add | .sub => true | _ => false
  | .unOp .not _ _ => true
  | .pick _ _ _ => true
  | .extract _ _ => true
  | .convert _ _ _ => true
  | .fieldAddr _ _ _ => true
  | .load _ _ => true
  | .nilCheck _ => true
  | .call c => match c.callee with | .builtin .len => true | _ => false
  | _ => false
def symR (ops : Array Oper) : Bool := ops.toList.all fun o => o.guard.isNone || plainOp o.op

section
variable {P : Program} {w0 : World} {n : Nat} {env : Env} {st : St} {Q Q1 : ZPost} {ops : Array Oper} {t : Nat} {rest : List Oper} {x y z : Operand} {t1 t2 ty : TypeId} {pos : String} {after : Array Edge}

/-- The world may be asked which of two a bool is. -/
theorem zs_split {dst : Option Tmp} {op : Op} {j tj : Nat} {want b : Bool} (hj : (ops[j]?).bind (·.dst) = some tj) (hb : zlook env tj = some (.v (.bool b)))
    (h1 : b = true → ZOps P w0 n ops (⟨dst, op, ty, pos, after, some (j, want)⟩ :: rest) Q env st) (h2 : b = false → ZOps P w0 n ops (⟨dst, op, ty, pos, after, some (j, want)⟩ :: rest) Q env st) :
    ZOps P w0 n ops (⟨dst, op, ty, pos, after, some (j, want)⟩ :: rest) Q env st := by
  cases b with
  | true => exact h1 rfl
  | false => exact h2 rfl

theorem zs_gen {op : Op} {j : Nat} {want c : Bool} {d : D} (hs : symR ops = true) (hg : GC ops env j want c) (ht : Nat.ble (t + 1) n = true)
    (h : c = true → ∀ {K : Env → St → Prop}, K ((t, d) :: env) st → ZOp P w0 n ⟨some t, op, ty, pos, after, none⟩ env st K)
    (hk : ZOps P w0 n ops rest Q ((t, gd c d) :: env) st) : ZOps P w0 n ops (⟨some t, op, ty, pos, after, some (j, want)⟩ :: rest) Q env st := by
  cases c with
  | false =>
    rw [gd_f rfl] at hk
    exact zo_skipU (by simpa using ht) (fun G a he => hg G n a he _ rfl) hk
  | true =>
    rw [gd_t rfl] at hk
    have hz := zo_cons (ops := ops) (rest := rest) (Q := Q) (o := ⟨some t, op, ty, pos, after, none⟩) rfl (h rfl hk)
    intro G w a h1 h2 h3
    have := hz G w a h1 h2 h3
    unfold wpList at this ⊢
    rw [if_pos (by simp [Region.wanted])] at this
    rw [if_pos (hg G n a h2 _ rfl)]
    exact this
theorem ZPure0.opK {o : Oper} {d : D} {K : Env → St → Prop} (hd : o.dst = some t) (ht : t < n) (h : ZPure0 P o env d) (hk : K ((t, d) :: env) st) : ZOp P w0 n o env st K := ZVal.op hd ht (h.pure.val hk)
theorem ZPure.opK {o : Oper} {d : D} {K : Env → St → Prop} (hd : o.dst = some t) (ht : t < n) (h : ZPure P o env d) (hk : K ((t, d) :: env) st) : ZOp P w0 n o env st K := ZVal.op hd ht (h.val hk)

theorem zp_andB {o : Oper} {p q : Bool} (hop : o.op = .pick x y z) (hc : ev env x = some (.v (.bool p))) (hx : p = true → ev env y = some (.v (.bool q))) (hy : ev env z = some (.v (.bool false))) : ZPure0 P o env (.v (.bool (p && q))) := by
  cases p with
  | true => exact zp_pick_true hop hc (hx rfl)
  | false => exact zp_pick_false hop hc hy
theorem zp_orB {o : Oper} {p q : Bool} (hop : o.op = .pick x y z) (hc : ev env x = some (.v (.bool p))) (hx : ev env y = some (.v (.bool true))) (hy : (!p) = true → ev env z = some (.v (.bool q))) : ZPure0 P o env (.v (.bool (p || q))) := by
  cases p with
  | true => exact zp_pick_true hop hc hx
  | false => exact zp_pick_false hop hc (hy rfl)
theorem zs_and {p q : Bool} (ht : Nat.ble (t + 1) n = true) (hc : ev env x = some (.v (.bool p))) (hx : p = true → ev env y = some (.v (.bool q))) (hy : ev env z = some (.v (.bool false)))
    (hk : ZOps P w0 n ops rest Q ((t, .v (.bool (p && q))) :: env) st) : ZOps P w0 n ops (⟨some t, .pick x y z, ty, pos, after, none⟩ :: rest) Q env st := zo_pure0 rfl rfl (Nat.le_of_ble_eq_true ht) (zp_andB rfl hc hx hy) hk
theorem zs_orB {p q : Bool} (ht : Nat.ble (t + 1) n = true) (hc : ev env x = some (.v (.bool p))) (hx : ev env y = some (.v (.bool true))) (hy : (!p) = true → ev env z = some (.v (.bool q)))
    (hk : ZOps P w0 n ops rest Q ((t, .v (.bool (p || q))) :: env) st) : ZOps P w0 n ops (⟨some t, .pick x y z, ty, pos, after, none⟩ :: rest) Q env st := zo_pure0 rfl rfl (Nat.le_of_ble_eq_true ht) (zp_orB rfl hc hx hy) hk

theorem zs_g_move {d : D} {j : Nat} {want c : Bool} (hS : symR ops = true) (hg : GC ops env j want c) (ht : Nat.ble (t + 1) n = true)  (hx : c = true → ev env x = some d)
    (hk : ZOps P w0 n ops rest Q ((t, gd c (d)) :: env) st) : ZOps P w0 n ops (⟨some t, .move x, ty, pos, after, some (j, want)⟩ :: rest) Q env st :=
  zs_gen hS hg ht (fun hc _ hk' => (zp_move rfl (hx hc)).opK rfl (Nat.le_of_ble_eq_true ht) hk') hk
theorem zs_g_not {b : Bool} {j : Nat} {want c : Bool} (hS : symR ops = true) (hg : GC ops env j want c) (ht : Nat.ble (t + 1) n = true)  (hx : c = true → ev env x = some (.v (.bool b)))
    (hk : ZOps P w0 n ops rest Q ((t, gd c (.v (.bool (!b)))) :: env) st) : ZOps P w0 n ops (⟨some t, .unOp .not t1 x, ty, pos, after, some (j, want)⟩ :: rest) Q env st :=
  zs_gen hS hg ht (fun hc _ hk' => (zp_not rfl (hx hc)).opK rfl (Nat.le_of_ble_eq_true ht) hk') hk
theorem zs_g_lss {k : IntKind} {a b : Int} {j : Nat} {want c : Bool} (hS : symR ops = true) (hg : GC ops env j want c) (ht : Nat.ble (t + 1) n = true)  (hx : c = true → ev env x = some (.v (.int k a))) (hy : c = true → ev env y = some (.v (.int k b)))
    (hk : ZOps P w0 n ops rest Q ((t, gd c (.v (.bool (decide (a < b))))) :: env) st) : ZOps P w0 n ops (⟨some t, .binOp .lss t1 x y t2, ty, pos, after, some (j, want)⟩ :: rest) Q env st :=
  zs_gen hS hg ht (fun hc _ hk' => (zp_lss rfl (hx hc) (hy hc)).opK rfl (Nat.le_of_ble_eq_true ht) hk') hk
theorem zs_g_leq {k : IntKind} {a b : Int} {j : Nat} {want c : Bool} (hS : symR ops = true) (hg : GC ops env j want c) (ht : Nat.ble (t + 1) n = true)  (hx : c = true → ev env x = some (.v (.int k a))) (hy : c = true → ev env y = some (.v (.int k b)))
    (hk : ZOps P w0 n ops rest Q ((t, gd c (.v (.bool (decide (a ≤ b))))) :: env) st) : ZOps P w0 n ops (⟨some t, .binOp .leq t1 x y t2, ty, pos, after, some (j, want)⟩ :: rest) Q env st :=
  zs_gen hS hg ht (fun hc _ hk' => (zp_leq rfl (hx hc) (hy hc)).opK rfl (Nat.le_of_ble_eq_true ht) hk') hk
theorem zs_g_gtr {k : IntKind} {a b : Int} {j : Nat} {want c : Bool} (hS : symR ops = true) (hg : GC ops env j want c) (ht : Nat.ble (t + 1) n = true)  (hx : c = true → ev env x = some (.v (.int k a))) (hy : c = true → ev env y = some (.v (.int k b)))
    (hk : ZOps P w0 n ops rest Q ((t, gd c (.v (.bool (decide (b < a))))) :: env) st) : ZOps P w0 n ops (⟨some t, .binOp .gtr t1 x y t2, ty, pos, after, some (j, want)⟩ :: rest) Q env st :=
  zs_gen hS hg ht (fun hc _ hk' => (zp_gtr rfl (hx hc) (hy hc)).opK rfl (Nat.le_of_ble_eq_true ht) hk') hk
theorem zs_g_geq {k : IntKind} {a b : Int} {j : Nat} {want c : Bool} (hS : symR ops = true) (hg : GC ops env j want c) (ht : Nat.ble (t + 1) n = true)  (hx : c = true → ev env x = some (.v (.int k a))) (hy : c = true → ev env y = some (.v (.int k b)))
    (hk : ZOps P w0 n ops rest Q ((t, gd c (.v (.bool (decide (b ≤ a))))) :: env) st) : ZOps P w0 n ops (⟨some t, .binOp .geq t1 x y t2, ty, pos, after, some (j, want)⟩ :: rest) Q env st :=
  zs_gen hS hg ht (fun hc _ hk' => (zp_geq rfl (hx hc) (hy hc)).opK rfl (Nat.le_of_ble_eq_true ht) hk') hk
theorem zs_g_eql {k : IntKind} {a b : Int} {j : Nat} {want c : Bool} (hS : symR ops = true) (hg : GC ops env j want c) (ht : Nat.ble (t + 1) n = true)  (hx : c = true → ev env x = some (.v (.int k a))) (hy : c = true → ev env y = some (.v (.int k b)))
    (hk : ZOps P w0 n ops rest Q ((t, gd c (.v (.bool (decide (a = b))))) :: env) st) : ZOps P w0 n ops (⟨some t, .binOp .eql t1 x y t2, ty, pos, after, some (j, want)⟩ :: rest) Q env st :=
  zs_gen hS hg ht (fun hc _ hk' => (zp_eql rfl (hx hc) (hy hc)).opK rfl (Nat.le_of_ble_eq_true ht) hk') hk
theorem zs_g_neq {k : IntKind} {a b : Int} {j : Nat} {want c : Bool} (hS : symR ops = true) (hg : GC ops env j want c) (ht : Nat.ble (t + 1) n = true)  (hx : c = true → ev env x = some (.v (.int k a))) (hy : c = true → ev env y = some (.v (.int k b)))
    (hk : ZOps P w0 n ops rest Q ((t, gd c (.v (.bool (decide (a ≠ b))))) :: env) st) : ZOps P w0 n ops (⟨some t, .binOp .neq t1 x y t2, ty, pos, after, some (j, want)⟩ :: rest) Q env st :=
  zs_gen hS hg ht (fun hc _ hk' => (zp_neq rfl (hx hc) (hy hc)).opK rfl (Nat.le_of_ble_eq_true ht) hk') hk
theorem zs_g_add {k : IntKind} {a b r : Int} {j : Nat} {want c : Bool} (hS : symR ops = true) (hg : GC ops env j want c) (ht : Nat.ble (t + 1) n = true)  (hx : c = true → ev env x = some (.v (.int k a))) (hy : c = true → ev env y = some (.v (.int k b))) (hr : c = true → k.wrap (a + b) = r)
    (hk : ZOps P w0 n ops rest Q ((t, gd c (.v (.int k r))) :: env) st) : ZOps P w0 n ops (⟨some t, .binOp .add t1 x y t2, ty, pos, after, some (j, want)⟩ :: rest) Q env st :=
  zs_gen hS hg ht (fun hc _ hk' => (zp_add rfl (hx hc) (hy hc) (hr hc)).opK rfl (Nat.le_of_ble_eq_true ht) hk') hk
theorem zs_g_sub {k : IntKind} {a b r : Int} {j : Nat} {want c : Bool} (hS : symR ops = true) (hg : GC ops env j want c) (ht : Nat.ble (t + 1) n = true)  (hx : c = true → ev env x = some (.v (.int k a))) (hy : c = true → ev env y = some (.v (.int k b))) (hr : c = true → k.wrap (a - b) = r)
    (hk : ZOps P w0 n ops rest Q ((t, gd c (.v (.int k r))) :: env) st) : ZOps P w0 n ops (⟨some t, .binOp .sub t1 x y t2, ty, pos, after, some (j, want)⟩ :: rest) Q env st :=
  zs_gen hS hg ht (fun hc _ hk' => (zp_sub rfl (hx hc) (hy hc) (hr hc)).opK rfl (Nat.le_of_ble_eq_true ht) hk') hk
theorem zs_g_extract {i : Nat} {ds : List D} {d : D} {j : Nat} {want c : Bool} (hS : symR ops = true) (hg : GC ops env j want c) (ht : Nat.ble (t + 1) n = true)  (hx : c = true → ev env x = some (.tup ds)) (hd : c = true → ds[i]? = some d)
    (hk : ZOps P w0 n ops rest Q ((t, gd c (d)) :: env) st) : ZOps P w0 n ops (⟨some t, .extract x i, ty, pos, after, some (j, want)⟩ :: rest) Q env st :=
  zs_gen hS hg ht (fun hc _ hk' => (zp_extract rfl (hx hc) (hd hc)).opK rfl (Nat.le_of_ble_eq_true ht) hk') hk
theorem zs_g_conv {k k' : IntKind} {a r : Int} {j : Nat} {want c : Bool} (hS : symR ops = true) (hg : GC ops env j want c) (ht : Nat.ble (t + 1) n = true) (ht1 : P.underlying t1 = some (.int k)) (ht2 : P.underlying t2 = some (.int k')) (hx : c = true → ev env x = some (.v (.int k a))) (hr : c = true → k'.wrap a = r)
    (hk : ZOps P w0 n ops rest Q ((t, gd c (.v (.int k' r))) :: env) st) : ZOps P w0 n ops (⟨some t, .convert t1 t2 x, ty, pos, after, some (j, want)⟩ :: rest) Q env st :=
  zs_gen hS hg ht (fun hc _ hk' => (zp_conv rfl (hx hc) ht1 ht2 (hr hc)).opK rfl (Nat.le_of_ble_eq_true ht) hk') hk
theorem zs_g_and {p q : Bool} {j : Nat} {want c : Bool} (hS : symR ops = true) (hg : GC ops env j want c) (ht : Nat.ble (t + 1) n = true)  (hp : c = true → ev env x = some (.v (.bool p))) (hx : c = true → p = true → ev env y = some (.v (.bool q))) (hy : c = true → ev env z = some (.v (.bool false)))
    (hk : ZOps P w0 n ops rest Q ((t, gd c (.v (.bool (p && q)))) :: env) st) : ZOps P w0 n ops (⟨some t, .pick x y z, ty, pos, after, some (j, want)⟩ :: rest) Q env st :=
  zs_gen hS hg ht (fun hc _ hk' => (zp_andB rfl (hp hc) (hx hc) (hy hc)).opK rfl (Nat.le_of_ble_eq_true ht) hk') hk
theorem zs_g_orB {p q : Bool} {j : Nat} {want c : Bool} (hS : symR ops = true) (hg : GC ops env j want c) (ht : Nat.ble (t + 1) n = true)  (hp : c = true → ev env x = some (.v (.bool p))) (hx : c = true → ev env y = some (.v (.bool true))) (hy : c = true → (!p) = true → ev env z = some (.v (.bool q)))
    (hk : ZOps P w0 n ops rest Q ((t, gd c (.v (.bool (p || q)))) :: env) st) : ZOps P w0 n ops (⟨some t, .pick x y z, ty, pos, after, some (j, want)⟩ :: rest) Q env st :=
  zs_gen hS hg ht (fun hc _ hk' => (zp_orB rfl (hp hc) (hx hc) (hy hc)).opK rfl (Nat.le_of_ble_eq_true ht) hk') hk
theorem zs_g_lenB {e : TypeId} {l : List UInt8} {k tk : Nat} {j : Nat} {want c : Bool} (hS : symR ops = true) (hg : GC ops env j want c) (ht : Nat.ble (t + 1) n = true) (ht1 : P.underlying t1 = some (.slice e)) (hx : c = true → ev env x = some (.row (bytesD l) k tk))
    (hk : ZOps P w0 n ops rest Q ((t, gd c (.v (.int .i64 (l.length : Nat)))) :: env) st) : ZOps P w0 n ops (⟨some t, .call { callee := .builtin .len, args := #[x], argTypes := #[t1] }, ty, pos, after, some (j, want)⟩ :: rest) Q env st :=
  zs_gen hS hg ht (fun hc _ hk' => (zp_lenB rfl ht1 (hx hc)).opK rfl (Nat.le_of_ble_eq_true ht) hk') hk
theorem zs_g_len {e : TypeId} {xs : List (List D)} {k tk : Nat} {j : Nat} {want c : Bool} (hS : symR ops = true) (hg : GC ops env j want c) (ht : Nat.ble (t + 1) n = true) (ht1 : P.underlying t1 = some (.slice e)) (hx : c = true → ev env x = some (.row xs k tk))
    (hk : ZOps P w0 n ops rest Q ((t, gd c (.v (.int .i64 xs.length))) :: env) st) : ZOps P w0 n ops (⟨some t, .call { callee := .builtin .len, args := #[x], argTypes := #[t1] }, ty, pos, after, some (j, want)⟩ :: rest) Q env st :=
  zs_gen hS hg ht (fun hc _ hk' => (zp_len rfl ht1 (hx hc)).opK rfl (Nat.le_of_ble_eq_true ht) hk') hk
theorem zs_g_len_nil {e : TypeId} {m c' : Nat} {j : Nat} {want c : Bool} (hS : symR ops = true) (hg : GC ops env j want c) (ht : Nat.ble (t + 1) n = true) (ht1 : P.underlying t1 = some (.slice e)) (hx : c = true → ev env x = some (.v (.slice none m c')))
    (hk : ZOps P w0 n ops rest Q ((t, gd c (.v (.int .i64 m))) :: env) st) : ZOps P w0 n ops (⟨some t, .call { callee := .builtin .len, args := #[x], argTypes := #[t1] }, ty, pos, after, some (j, want)⟩ :: rest) Q env st :=
  zs_gen hS hg ht (fun hc _ hk' => (zp_len_nil rfl ht1 (hx hc)).opK rfl (Nat.le_of_ble_eq_true ht) hk') hk
theorem zs_g_strlen {l : List UInt8} {j : Nat} {want c : Bool} (hS : symR ops = true) (hg : GC ops env j want c) (ht : Nat.ble (t + 1) n = true) (ht1 : P.underlying t1 = some .string) (hx : c = true → ev env x = some (strD l))
    (hk : ZOps P w0 n ops rest Q ((t, gd c (.v (.int .i64 (l.length : Nat)))) :: env) st) : ZOps P w0 n ops (⟨some t, .call { callee := .builtin .len, args := #[x], argTypes := #[t1] }, ty, pos, after, some (j, want)⟩ :: rest) Q env st :=
  zs_gen hS hg ht (fun hc _ hk' => (zp_strlen rfl ht1 (hx hc)).opK rfl (Nat.le_of_ble_eq_true ht) hk') hk
theorem zs_g_streq {l m : List UInt8} {j : Nat} {want c : Bool} (hS : symR ops = true) (hg : GC ops env j want c) (ht : Nat.ble (t + 1) n = true)  (hx : c = true → ev env x = some (strD l)) (hy : c = true → ev env y = some (strD m))
    (hk : ZOps P w0 n ops rest Q ((t, gd c (.v (.bool (l == m)))) :: env) st) : ZOps P w0 n ops (⟨some t, .binOp .eql t1 x y t2, ty, pos, after, some (j, want)⟩ :: rest) Q env st :=
  zs_gen hS hg ht (fun hc _ hk' => (zp_streq rfl (hx hc) (hy hc) (.inl ⟨rfl, rfl⟩)).opK rfl (Nat.le_of_ble_eq_true ht) hk') hk
theorem zs_g_strne {l m : List UInt8} {j : Nat} {want c : Bool} (hS : symR ops = true) (hg : GC ops env j want c) (ht : Nat.ble (t + 1) n = true)  (hx : c = true → ev env x = some (strD l)) (hy : c = true → ev env y = some (strD m))
    (hk : ZOps P w0 n ops rest Q ((t, gd c (.v (.bool (!(l == m))))) :: env) st) : ZOps P w0 n ops (⟨some t, .binOp .neq t1 x y t2, ty, pos, after, some (j, want)⟩ :: rest) Q env st :=
  zs_gen hS hg ht (fun hc _ hk' => (zp_streq rfl (hx hc) (hy hc) (.inr ⟨rfl, rfl⟩)).opK rfl (Nat.le_of_ble_eq_true ht) hk') hk
theorem zs_g_beq {a b : Bool} {j : Nat} {want c : Bool} (hS : symR ops = true) (hg : GC ops env j want c) (ht : Nat.ble (t + 1) n = true) (ht1 : P.underlying t1 = some .bool) (hx : c = true → ev env x = some (.v (.bool a))) (hy : c = true → ev env y = some (.v (.bool b)))
    (hk : ZOps P w0 n ops rest Q ((t, gd c (.v (.bool (a == b)))) :: env) st) : ZOps P w0 n ops (⟨some t, .binOp .eql t1 x y t2, ty, pos, after, some (j, want)⟩ :: rest) Q env st :=
  zs_gen hS hg ht (fun hc _ hk' => (zp_beq rfl (hx hc) (hy hc) ht1 (.inl ⟨rfl, rfl⟩)).opK rfl (Nat.le_of_ble_eq_true ht) hk') hk
theorem zs_g_bne {a b : Bool} {j : Nat} {want c : Bool} (hS : symR ops = true) (hg : GC ops env j want c) (ht : Nat.ble (t + 1) n = true) (ht1 : P.underlying t1 = some .bool) (hx : c = true → ev env x = some (.v (.bool a))) (hy : c = true → ev env y = some (.v (.bool b)))
    (hk : ZOps P w0 n ops rest Q ((t, gd c (.v (.bool (a != b)))) :: env) st) : ZOps P w0 n ops (⟨some t, .binOp .neq t1 x y t2, ty, pos, after, some (j, want)⟩ :: rest) Q env st :=
  zs_gen hS hg ht (fun hc _ hk' => (zp_beq rfl (hx hc) (hy hc) ht1 (.inr ⟨rfl, rfl⟩)).opK rfl (Nat.le_of_ble_eq_true ht) hk') hk
theorem zs_g_toStr {e : TypeId} {l : List UInt8} {tk : Nat} {j : Nat} {want c : Bool} (hS : symR ops = true) (hg : GC ops env j want c) (ht : Nat.ble (t + 1) n = true) (ht1 : P.underlying t1 = some (.slice e)) (he : P.underlying e = some (.int .u8)) (hu : P.underlying t2 = some .string) (hx : c = true → ev env x = some (.row (bytesD l) 1 tk))
    (hk : ZOps P w0 n ops rest Q ((t, gd c (strD l)) :: env) st) : ZOps P w0 n ops (⟨some t, .convert t1 t2 x, ty, pos, after, some (j, want)⟩ :: rest) Q env st :=
  zs_gen hS hg ht (fun hc _ hk' => (zp_toStr rfl ht1 he hu (hx hc)).opK rfl (Nat.le_of_ble_eq_true ht) hk') hk
theorem zs_g_nilCheck_ref {cs : List D} {j : Nat} {want c : Bool} (hS : symR ops = true) (hg : GC ops env j want c) (ht : Nat.ble (t + 1) n = true)  (hx : c = true → ev env x = some (.ref cs))
    (hk : ZOps P w0 n ops rest Q ((t, gd c (.ref cs)) :: env) st) : ZOps P w0 n ops (⟨some t, .nilCheck x, ty, pos, after, some (j, want)⟩ :: rest) Q env st :=
  zs_gen hS hg ht (fun hc _ hk' => (zp_nilCheck rfl (hx hc) (.inl ⟨_, rfl⟩)).opK rfl (Nat.le_of_ble_eq_true ht) hk') hk
theorem zs_g_nilCheck_ptr {id off : Nat} {j : Nat} {want c : Bool} (hS : symR ops = true) (hg : GC ops env j want c) (ht : Nat.ble (t + 1) n = true)  (hx : c = true → ev env x = some (.ptr id off))
    (hk : ZOps P w0 n ops rest Q ((t, gd c (.ptr id off)) :: env) st) : ZOps P w0 n ops (⟨some t, .nilCheck x, ty, pos, after, some (j, want)⟩ :: rest) Q env st :=
  zs_gen hS hg ht (fun hc _ hk' => (zp_nilCheck rfl (hx hc) (.inr ⟨_, _, rfl⟩)).opK rfl (Nat.le_of_ble_eq_true ht) hk') hk
theorem zs_g_field_ref {cs : List D} {f off : Nat} {j : Nat} {want c : Bool} (hS : symR ops = true) (hg : GC ops env j want c) (ht : Nat.ble (t + 1) n = true)  (hx : c = true → ev env x = some (.ref cs)) (hf : c = true → fieldIs P t1 f off)
    (hk : ZOps P w0 n ops rest Q ((t, gd c (.ref (cs.drop off))) :: env) st) : ZOps P w0 n ops (⟨some t, .fieldAddr t1 x f, ty, pos, after, some (j, want)⟩ :: rest) Q env st :=
  zs_gen hS hg ht (fun hc _ hk' => (zp_fieldAddr_ref rfl (hf hc) (hx hc)).opK rfl (Nat.le_of_ble_eq_true ht) hk') hk
theorem zs_g_field_ptr {id q f off : Nat} {j : Nat} {want c : Bool} (hS : symR ops = true) (hg : GC ops env j want c) (ht : Nat.ble (t + 1) n = true)  (hx : c = true → ev env x = some (.ptr id q)) (hf : c = true → fieldIs P t1 f off)
    (hk : ZOps P w0 n ops rest Q ((t, gd c (.ptr id (q + off))) :: env) st) : ZOps P w0 n ops (⟨some t, .fieldAddr t1 x f, ty, pos, after, some (j, want)⟩ :: rest) Q env st :=
  zs_gen hS hg ht (fun hc _ hk' => (zp_fieldAddr_ptr rfl (hf hc) (hx hc)).opK rfl (Nat.le_of_ble_eq_true ht) hk') hk
theorem zs_g_load_ref {cs : List D} {d : D} {j : Nat} {want c : Bool} (hS : symR ops = true) (hg : GC ops env j want c) (ht : Nat.ble (t + 1) n = true)  (hx : c = true → ev env x = some (.ref cs)) (hs : c = true → shapeIs P t1 false 1) (hd : c = true → cs[0]? = some d)
    (hk : ZOps P w0 n ops rest Q ((t, gd c (d)) :: env) st) : ZOps P w0 n ops (⟨some t, .load t1 x, ty, pos, after, some (j, want)⟩ :: rest) Q env st :=
  zs_gen hS hg ht (fun hc _ hk' => (zp_load_ref rfl (hs hc) (hx hc) (hd hc)).opK rfl (Nat.le_of_ble_eq_true ht) hk') hk

/-- Kept slots. -/
def Keep (env : Env) (ks : List Nat) (env1 : Env) : Prop := Sub env1 env
theorem keep_nil : Keep env [] [] := sub_nil env
theorem keep_cons {k : Nat} {ks : List Nat} {d : D} {r : Env} (h : zlook env k = some d) (hs : Keep env ks r) : Keep env (k :: ks) ((k, d) :: r) := sub_cons h hs
theorem keep_skip {k : Nat} {ks : List Nat} {r : Env} (hs : Keep env ks r) : Keep env (k :: ks) r := hs
theorem Sub.append {e1 e2 env : Env} (h1 : Sub e1 env) (h2 : Sub e2 env) : Sub (e1 ++ e2) env := by
  induction e1 with
  | nil => exact h2
  | cons p r ih =>
    obtain ⟨k, d⟩ := p
    intro t d' e
    have e0 := e
    unfold Sub at h1
    by_cases hk : k = t
    · subst hk
      have : d = d' := by simpa [zlook] using e
      subst this
      exact h1 k d (by simp [zlook])
    · have e' : zlook (r ++ e2) t = some d' := by simpa [zlook, hk] using e
      clear e0
      -- what the rest tells: of r or of e2
      have key : ∀ r : Env, zlook (r ++ e2) t = some d' → zlook r t = some d' ∨ zlook e2 t = some d' := by
        intro r
        induction r with
        | nil => intro h; exact .inr h
        | cons q r ihr =>
          obtain ⟨k2, d2⟩ := q
          intro h
          by_cases hk2 : k2 = t
          · left; simpa [zlook, hk2] using h
          · rcases ihr (by simpa [zlook, hk2] using h) with h | h
            · left; simpa [zlook, hk2] using h
            · exact .inr h
      rcases key r e' with h | h
      · exact h1 t d' (by simpa [zlook, hk] using h)
      · exact h2 t d' h

/-- A loop: what is told anew each round (J), and slots that are kept. -/
theorem zr_loopK {c : Code} (ks : List Nat) (J : Nat → Env → St → Prop) (m0 : Nat) (e0 : Env) {env1 : Env} (hk : Keep env ks env1) (h0 : J m0 e0 st) (h0s : Sub e0 env)
    (round : ∀ m e st, J m e st → ZWp P w0 n c (Zthen (fun env' st' => ∃ m' e', m' < m ∧ J m' e' st' ∧ Sub e' env' ∧ Sub env1 env') Q) (e ++ env1) st) : ZWp P w0 n (.loop c) Q env st := by
  refine zr_loopE (fun m env s => ∃ e, J m e s ∧ env = e ++ env1) m0 (e0 ++ env1) (Sub.append h0s hk) ⟨e0, h0, rfl⟩ ?_
  rintro m env s ⟨e, hJ, rfl⟩
  refine (round m e s hJ).mono fun x env' st' hq => ?_
  cases x with
  | normal => obtain ⟨m', e', h1, h2, h3, h4⟩ := hq; exact ⟨m', e' ++ env1, h1, ⟨e', h2, rfl⟩, Sub.append h3 h4⟩
  | _ => exact hq
/-- Ways that meet. -/
theorem zr_cutK {c y : Code} (ks : List Nat) (J : Env → St → Prop) {env1 : Env} (hk : Keep env ks env1) (h : ZWp P w0 n c (Zthen (fun env' st' => ∃ e, J e st' ∧ Sub e env' ∧ Sub env1 env') Q1) env st)
    (h2 : ∀ e st, J e st → ZWp P w0 n y Q (e ++ env1) st) : ZWp P w0 n c (Zthen (ZWp P w0 n y Q) Q1) env st := by
  refine h.mono fun x env' st' hq => ?_
  cases x with
  | normal => obtain ⟨e, h3, h4, h5⟩ := hq; exact (h2 e _ h3).weaken (Sub.append h4 h5)
  | _ => exact hq
theorem zo_cutK {l : List Oper} {y : Code} (ks : List Nat) (J : Env → St → Prop) {env1 : Env} (hk : Keep env ks env1) (h : ZOps P w0 n ops l (Zthen (fun env' st' => ∃ e, J e st' ∧ Sub e env' ∧ Sub env1 env') Q1) env st)
    (h2 : ∀ e st, J e st → ZWp P w0 n y Q (e ++ env1) st) : ZOps P w0 n ops l (Zthen (ZWp P w0 n y Q) Q1) env st := by
  intro G w a q1 q2 q3
  refine wpList_mono (Outc.mono (.refl G) fun x env' st' hq => ?_) (fun c a w h => h.elim) l a w (h G w a q1 q2 q3)
  cases x with
  | normal => obtain ⟨e, h3, h4, h5⟩ := hq; exact (h2 e _ h3).weaken (Sub.append h4 h5)
  | _ => exact hq
/-- Only some slots are still told. -/
theorem zr_keep {c : Code} (ks : List Nat) {env1 : Env} (hk : Keep env ks env1) (h : ZWp P w0 n c Q env1 st) : ZWp P w0 n c Q env st := h.weaken hk
theorem zo_keep {l : List Oper} (ks : List Nat) {env1 : Env} (hk : Keep env ks env1) (h : ZOps P w0 n ops l Q env1 st) : ZOps P w0 n ops l Q env st := fun G w a q1 q2 q3 => h G w a q1 (q2.sub hk) q3

/-- A function that may be called. -/
def Callable (P : Program) (f : FuncId) : Prop := ∃ fn, P.funcs[f]? = some fn ∧ (fn.name == "runtime.NumGoroutine") = false ∧ fn.body.isSome = true
theorem callable {P : Program} {f : FuncId} (h : (P.funcs[f]?).map (fun fn => ((fn.name == "runtime.NumGoroutine"), fn.body.isSome)) = some (false, true)) : Callable P f := by
  obtain ⟨fn, hf, he⟩ := Option.map_eq_some_iff.1 h
  simp only [Prod.mk.injEq] at he
  exact ⟨fn, hf, he.1, he.2⟩
theorem zs_call {spec : ZSpec} {f : FuncId} {as : List Operand} {ts : Array TypeId} {ds es : List D} (hs : SoundF P f spec) (hc : Callable P f) (ht : Nat.ble (t + 1) n = true) (ha : evs env as = some ds) (hu : Ups ds es)
    (h : spec es st fun d st' => ZOps P w0 n ops rest Q ((t, d) :: env) st') : ZOps P w0 n ops (⟨some t, .call { callee := .value (.func f), args := as.toArray, argTypes := ts }, ty, pos, after, none⟩ :: rest) Q env st := by
  obtain ⟨fn, h1, h2, h3⟩ := hc
  exact zo_callU hs h1 h2 h3 rfl rfl rfl (Nat.le_of_ble_eq_true ht) rfl ha hu (by rw [List.append_nil]; exact h)

/-- A mask of the lowest bits; a shift to the right. -/
theorem zs_mask {k : IntKind} {a m p : Int} (e : Nat) (ht : Nat.ble (t + 1) n = true) (hx : ev env x = some (.v (.int k a))) (hm : m = 2 ^ e - 1) (hp : (2 : Int) ^ e = p) (hk1 : e < k.bits) (hK : k.bits ≤ 64) (hs : k.signed = true → e < k.bits - 1)
    (hk : ZOps P w0 n ops rest Q ((t, .v (.int k (a % p))) :: env) st) : ZOps P w0 n ops (⟨some t, .binOp .and t1 x (.const (.int k m)) t2, ty, pos, after, none⟩ :: rest) Q env st := by
  subst hp
  exact zo_pure0 rfl rfl (Nat.le_of_ble_eq_true ht) (zp_and rfl hx rfl (and_mask e hk1 hK hs a m _ hm rfl)) hk
theorem zs_shr {k k' : IntKind} {a b p : Int} (ht : Nat.ble (t + 1) n = true) (hx : ev env x = some (.v (.int k a))) (hb : 0 ≤ b) (hp : (2 : Int) ^ min b.toNat k.bits = p) (hp0 : 0 ≤ p)
    (hk : ZOps P w0 n ops rest Q ((t, .v (.int k (a / p))) :: env) st) : ZOps P w0 n ops (⟨some t, .binOp .shr t1 x (.const (.int k' b)) t2, ty, pos, after, none⟩ :: rest) Q env st := by
  subst hp
  exact zo_pure0 rfl rfl (Nat.le_of_ble_eq_true ht) (zp_shr rfl hx rfl hb (Int.fdiv_eq_ediv_of_nonneg a hp0)) hk

/-- Strings. -/
theorem zs_strlen {l : List UInt8} (ht : Nat.ble (t + 1) n = true) (hx : ev env x = some (strD l)) (ht1 : P.underlying t1 = some .string) (hk : ZOps P w0 n ops rest Q ((t, .v (.int .i64 (l.length : Nat))) :: env) st) :
    ZOps P w0 n ops (⟨some t, .call { callee := .builtin .len, args := #[x], argTypes := #[t1] }, ty, pos, after, none⟩ :: rest) Q env st := zo_pure0 rfl rfl (Nat.le_of_ble_eq_true ht) (zp_strlen rfl ht1 hx) hk
theorem zs_streq {l m : List UInt8} (ht : Nat.ble (t + 1) n = true) (hx : ev env x = some (strD l)) (hy : ev env y = some (strD m)) (hk : ZOps P w0 n ops rest Q ((t, .v (.bool (l == m))) :: env) st) :
    ZOps P w0 n ops (⟨some t, .binOp .eql t1 x y t2, ty, pos, after, none⟩ :: rest) Q env st := zo_pure0 rfl rfl (Nat.le_of_ble_eq_true ht) (zp_streq rfl hx hy (.inl ⟨rfl, rfl⟩)) hk
theorem zs_strne {l m : List UInt8} (ht : Nat.ble (t + 1) n = true) (hx : ev env x = some (strD l)) (hy : ev env y = some (strD m)) (hk : ZOps P w0 n ops rest Q ((t, .v (.bool (!(l == m)))) :: env) st) :
    ZOps P w0 n ops (⟨some t, .binOp .neq t1 x y t2, ty, pos, after, none⟩ :: rest) Q env st := zo_pure0 rfl rfl (Nat.le_of_ble_eq_true ht) (zp_streq rfl hx hy (.inr ⟨rfl, rfl⟩)) hk
theorem zs_toStr {e : TypeId} {l : List UInt8} {tk : Nat} (ht : Nat.ble (t + 1) n = true) (hx : ev env x = some (.row (bytesD l) 1 tk)) (ht1 : P.underlying t1 = some (.slice e)) (he : P.underlying e = some (.int .u8)) (hu : P.underlying t2 = some .string)
    (hk : ZOps P w0 n ops rest Q ((t, strD l) :: env) st) : ZOps P w0 n ops (⟨some t, .convert t1 t2 x, ty, pos, after, none⟩ :: rest) Q env st := zo_pure rfl rfl (Nat.le_of_ble_eq_true ht) (zp_toStr rfl ht1 he hu hx) hk
theorem zs_beq {a b : Bool} (ht : Nat.ble (t + 1) n = true) (hx : ev env x = some (.v (.bool a))) (hy : ev env y = some (.v (.bool b))) (ht1 : P.underlying t1 = some .bool) (hk : ZOps P w0 n ops rest Q ((t, .v (.bool (a == b))) :: env) st) :
    ZOps P w0 n ops (⟨some t, .binOp .eql t1 x y t2, ty, pos, after, none⟩ :: rest) Q env st := zo_pure0 rfl rfl (Nat.le_of_ble_eq_true ht) (zp_beq rfl hx hy ht1 (.inl ⟨rfl, rfl⟩)) hk
theorem zs_bne {a b : Bool} (ht : Nat.ble (t + 1) n = true) (hx : ev env x = some (.v (.bool a))) (hy : ev env y = some (.v (.bool b))) (ht1 : P.underlying t1 = some .bool) (hk : ZOps P w0 n ops rest Q ((t, .v (.bool (a != b))) :: env) st) :
    ZOps P w0 n ops (⟨some t, .binOp .neq t1 x y t2, ty, pos, after, none⟩ :: rest) Q env st := zo_pure0 rfl rfl (Nat.le_of_ble_eq_true ht) (zp_beq rfl hx hy ht1 (.inr ⟨rfl, rfl⟩)) hk

end
end Go.Proofs.Zm
