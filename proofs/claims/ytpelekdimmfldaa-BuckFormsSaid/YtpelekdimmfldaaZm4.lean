/- The framework's fourth part: operations that read no memory, or only what nobody writes. -/
import Derived.Test.YtpelekdimmfldaaZm3
import Derived.WalkKit
namespace Go.Proofs.Zm
open Go.RowKit
set_option linter.unusedVariables false
set_option linter.unusedSimpArgs false

section
variable {P : Program} {env : Env} {o : Oper}

theorem zp_move {x : Operand} {d : D} (hop : o.op = .move x) (hx : ev env x = some d) : ZPure0 P o env d := fun G n a he =>
  ⟨_, ev_ok he hx, fun w => by simp [execOp, hop]⟩
theorem zp_assign {x : Operand} {d : D} (hop : o.op = .assign x) (hx : ev env x = some d) : ZPure0 P o env d := fun G n a he =>
  ⟨_, ev_ok he hx, fun w => by simp [execOp, hop]⟩
theorem zp_pick {c x y : Operand} {b : Bool} {dx dy : D} (hop : o.op = .pick c x y) (hc : ev env c = some (.v (.bool b))) (hx : ev env x = some dx) (hy : ev env y = some dy) :
    ZPure0 P o env (if b then dx else dy) := fun G n a he => by
  have e := (ev_ok he hc).eq_v
  refine ⟨if b then a.eval x else a.eval y, ?_, fun w => ?_⟩
  · cases b
    · exact ev_ok he hy
    · exact ev_ok he hx
  · simp [execOp, hop, e, asBool]
/-- Of what was never told nothing need be known, if it isn't taken. -/
theorem zp_pick_true {c x y : Operand} {dx : D} (hop : o.op = .pick c x y) (hc : ev env c = some (.v (.bool true))) (hx : ev env x = some dx) : ZPure0 P o env dx := fun G n a he => by
  have e := (ev_ok he hc).eq_v
  exact ⟨a.eval x, ev_ok he hx, fun w => by simp [execOp, hop, e, asBool]⟩
theorem zp_pick_false {c x y : Operand} {dy : D} (hop : o.op = .pick c x y) (hc : ev env c = some (.v (.bool false))) (hy : ev env y = some dy) : ZPure0 P o env dy := fun G n a he => by
  have e := (ev_ok he hc).eq_v
  exact ⟨a.eval y, ev_ok he hy, fun w => by simp [execOp, hop, e, asBool]⟩

/-- Two plain values. -/
theorem zp_bin {op : BinOp} {t t' : TypeId} {x y : Operand} {a b r : Value} (hop : o.op = .binOp op t x y t') (hx : ev env x = some (.v a)) (hy : ev env y = some (.v b))
    (hr : ∀ w : World, (do eqGuard op t x y a b; binOp op t a b : Sem Value).run P w = .ok r w) : ZPure0 P o env (.v r) := fun G n act he => by
  have e1 := (ev_ok he hx).eq_v
  have e2 := (ev_ok he hy).eq_v
  refine ⟨r, .v r, fun w => ?_⟩
  have := hr w
  simp only [execOp, hop, e1, e2]
  simp only [Sem.run_bind, this, Result.andThen_ok, Sem.run_pure]

theorem guard_int (op : BinOp) (t : TypeId) (x y : Operand) (k k' : IntKind) (a b : Int) (w : World) : (eqGuard op t x y (.int k a) (.int k' b)).run P w = .ok () w := by
  unfold eqGuard
  cases op <;> simp

theorem zp_cmp {op : BinOp} {t t' : TypeId} {x y : Operand} {k : IntKind} {a b : Int} {r : Bool} (hop : o.op = .binOp op t x y t') (hx : ev env x = some (.v (.int k a))) (hy : ev env y = some (.v (.int k b)))
    (hr : (op = .lss ∧ r = decide (a < b)) ∨ (op = .leq ∧ r = decide (a ≤ b)) ∨ (op = .gtr ∧ r = decide (b < a)) ∨ (op = .geq ∧ r = decide (b ≤ a)) ∨ (op = .eql ∧ r = decide (a = b)) ∨ (op = .neq ∧ r = decide (a ≠ b))) :
    ZPure0 P o env (.v (.bool r)) := by
  refine zp_bin hop hx hy fun w => ?_
  rw [Sem.run_bind, guard_int]
  simp only [Result.andThen_ok]
  rcases hr with ⟨rfl, rfl⟩ | ⟨rfl, rfl⟩ | ⟨rfl, rfl⟩ | ⟨rfl, rfl⟩ | ⟨rfl, rfl⟩ | ⟨rfl, rfl⟩
  all_goals simp [binOp, Op.intCmp]
  all_goals (by_cases h : a = b <;> simp [h])

theorem zp_lss {t t' : TypeId} {x y : Operand} {k : IntKind} {a b : Int} (hop : o.op = .binOp .lss t x y t') (hx : ev env x = some (.v (.int k a))) (hy : ev env y = some (.v (.int k b))) : ZPure0 P o env (.v (.bool (decide (a < b)))) := zp_cmp hop hx hy (.inl ⟨rfl, rfl⟩)
theorem zp_leq {t t' : TypeId} {x y : Operand} {k : IntKind} {a b : Int} (hop : o.op = .binOp .leq t x y t') (hx : ev env x = some (.v (.int k a))) (hy : ev env y = some (.v (.int k b))) : ZPure0 P o env (.v (.bool (decide (a ≤ b)))) := zp_cmp hop hx hy (.inr (.inl ⟨rfl, rfl⟩))
theorem zp_gtr {t t' : TypeId} {x y : Operand} {k : IntKind} {a b : Int} (hop : o.op = .binOp .gtr t x y t') (hx : ev env x = some (.v (.int k a))) (hy : ev env y = some (.v (.int k b))) : ZPure0 P o env (.v (.bool (decide (b < a)))) := zp_cmp hop hx hy (.inr (.inr (.inl ⟨rfl, rfl⟩)))
theorem zp_geq {t t' : TypeId} {x y : Operand} {k : IntKind} {a b : Int} (hop : o.op = .binOp .geq t x y t') (hx : ev env x = some (.v (.int k a))) (hy : ev env y = some (.v (.int k b))) : ZPure0 P o env (.v (.bool (decide (b ≤ a)))) := zp_cmp hop hx hy (.inr (.inr (.inr (.inl ⟨rfl, rfl⟩))))
theorem zp_eql {t t' : TypeId} {x y : Operand} {k : IntKind} {a b : Int} (hop : o.op = .binOp .eql t x y t') (hx : ev env x = some (.v (.int k a))) (hy : ev env y = some (.v (.int k b))) : ZPure0 P o env (.v (.bool (decide (a = b)))) := zp_cmp hop hx hy (.inr (.inr (.inr (.inr (.inl ⟨rfl, rfl⟩)))))
theorem zp_neq {t t' : TypeId} {x y : Operand} {k : IntKind} {a b : Int} (hop : o.op = .binOp .neq t x y t') (hx : ev env x = some (.v (.int k a))) (hy : ev env y = some (.v (.int k b))) : ZPure0 P o env (.v (.bool (decide (a ≠ b)))) := zp_cmp hop hx hy (.inr (.inr (.inr (.inr (.inr ⟨rfl, rfl⟩)))))

theorem zp_add {t t' : TypeId} {x y : Operand} {k : IntKind} {a b r : Int} (hop : o.op = .binOp .add t x y t') (hx : ev env x = some (.v (.int k a))) (hy : ev env y = some (.v (.int k b))) (hr : k.wrap (a + b) = r) : ZPure0 P o env (.v (.int k r)) :=
  zp_bin hop hx hy fun w => by subst hr; rw [Sem.run_bind, guard_int]; simp [binOp, Op.intArith]
theorem zp_sub {t t' : TypeId} {x y : Operand} {k : IntKind} {a b r : Int} (hop : o.op = .binOp .sub t x y t') (hx : ev env x = some (.v (.int k a))) (hy : ev env y = some (.v (.int k b))) (hr : k.wrap (a - b) = r) : ZPure0 P o env (.v (.int k r)) :=
  zp_bin hop hx hy fun w => by subst hr; rw [Sem.run_bind, guard_int]; simp [binOp, Op.intArith]
theorem zp_mul {t t' : TypeId} {x y : Operand} {k : IntKind} {a b r : Int} (hop : o.op = .binOp .mul t x y t') (hx : ev env x = some (.v (.int k a))) (hy : ev env y = some (.v (.int k b))) (hr : k.wrap (a * b) = r) : ZPure0 P o env (.v (.int k r)) :=
  zp_bin hop hx hy fun w => by subst hr; rw [Sem.run_bind, guard_int]; simp [binOp, Op.intArith]
theorem zp_quo {t t' : TypeId} {x y : Operand} {k : IntKind} {a b r : Int} (hop : o.op = .binOp .quo t x y t') (hx : ev env x = some (.v (.int k a))) (hy : ev env y = some (.v (.int k b))) (hb : b ≠ 0) (hr : k.wrap (a.tdiv b) = r) : ZPure0 P o env (.v (.int k r)) :=
  zp_bin hop hx hy fun w => by subst hr; rw [Sem.run_bind, guard_int]; simp [binOp, Op.intDiv, hb]
theorem zp_rem {t t' : TypeId} {x y : Operand} {k : IntKind} {a b r : Int} (hop : o.op = .binOp .rem t x y t') (hx : ev env x = some (.v (.int k a))) (hy : ev env y = some (.v (.int k b))) (hb : b ≠ 0) (hr : a.tmod b = r) : ZPure0 P o env (.v (.int k r)) :=
  zp_bin hop hx hy fun w => by subst hr; rw [Sem.run_bind, guard_int]; simp [binOp, Op.intDiv, hb]
theorem zp_and {t t' : TypeId} {x y : Operand} {k : IntKind} {a b r : Int} (hop : o.op = .binOp .and t x y t') (hx : ev env x = some (.v (.int k a))) (hy : ev env y = some (.v (.int k b))) (hr : k.wrap ((BitVec.ofInt k.bits a &&& BitVec.ofInt k.bits b).toNat : Int) = r) : ZPure0 P o env (.v (.int k r)) :=
  zp_bin hop hx hy fun w => by subst hr; rw [Sem.run_bind, guard_int]; simp [binOp, Op.intBits]
theorem zp_or {t t' : TypeId} {x y : Operand} {k : IntKind} {a b r : Int} (hop : o.op = .binOp .or t x y t') (hx : ev env x = some (.v (.int k a))) (hy : ev env y = some (.v (.int k b))) (hr : k.wrap ((BitVec.ofInt k.bits a ||| BitVec.ofInt k.bits b).toNat : Int) = r) : ZPure0 P o env (.v (.int k r)) :=
  zp_bin hop hx hy fun w => by subst hr; rw [Sem.run_bind, guard_int]; simp [binOp, Op.intBits]
theorem zp_xor {t t' : TypeId} {x y : Operand} {k : IntKind} {a b r : Int} (hop : o.op = .binOp .xor t x y t') (hx : ev env x = some (.v (.int k a))) (hy : ev env y = some (.v (.int k b))) (hr : k.wrap ((BitVec.ofInt k.bits a ^^^ BitVec.ofInt k.bits b).toNat : Int) = r) : ZPure0 P o env (.v (.int k r)) :=
  zp_bin hop hx hy fun w => by subst hr; rw [Sem.run_bind, guard_int]; simp [binOp, Op.intBits]
theorem zp_andNot {t t' : TypeId} {x y : Operand} {k : IntKind} {a b r : Int} (hop : o.op = .binOp .andNot t x y t') (hx : ev env x = some (.v (.int k a))) (hy : ev env y = some (.v (.int k b))) (hr : k.wrap ((BitVec.ofInt k.bits a &&& ~~~ BitVec.ofInt k.bits b).toNat : Int) = r) : ZPure0 P o env (.v (.int k r)) :=
  zp_bin hop hx hy fun w => by subst hr; rw [Sem.run_bind, guard_int]; simp [binOp, Op.intBits]
theorem zp_shl {t t' : TypeId} {x y : Operand} {k k' : IntKind} {a b r : Int} (hop : o.op = .binOp .shl t x y t') (hx : ev env x = some (.v (.int k a))) (hy : ev env y = some (.v (.int k' b))) (hb : 0 ≤ b) (hr : k.wrap (a * 2 ^ min b.toNat k.bits) = r) : ZPure0 P o env (.v (.int k r)) :=
  zp_bin hop hx hy fun w => by
    subst hr
    have hb' : ¬ b < 0 := by omega
    rw [Sem.run_bind, guard_int]
    simp [binOp, Op.shift, hb']
theorem zp_shr {t t' : TypeId} {x y : Operand} {k k' : IntKind} {a b r : Int} (hop : o.op = .binOp .shr t x y t') (hx : ev env x = some (.v (.int k a))) (hy : ev env y = some (.v (.int k' b))) (hb : 0 ≤ b) (hr : a.fdiv (2 ^ min b.toNat k.bits) = r) : ZPure0 P o env (.v (.int k r)) :=
  zp_bin hop hx hy fun w => by
    subst hr
    have hb' : ¬ b < 0 := by omega
    rw [Sem.run_bind, guard_int]
    simp [binOp, Op.shift, hb']

theorem guard_str (op : BinOp) (t : TypeId) (x y : Operand) (a b : ByteArray) (w : World) : (eqGuard op t x y (.string a) (.string b)).run P w = .ok () w := by
  unfold eqGuard
  cases op <;> simp
theorem zp_str {op : BinOp} {t t' : TypeId} {x y : Operand} {a b : ByteArray} {r : Value} (hop : o.op = .binOp op t x y t') (hx : ev env x = some (.v (.string a))) (hy : ev env y = some (.v (.string b)))
    (hr : (op = .eql ∧ r = .bool (a.toList == b.toList)) ∨ (op = .neq ∧ r = .bool (!(a.toList == b.toList))) ∨ (op = .lss ∧ r = .bool (Op.bytesLess a.toList b.toList)) ∨
      (op = .geq ∧ r = .bool (!Op.bytesLess a.toList b.toList)) ∨ (op = .leq ∧ r = .bool (Op.bytesLess a.toList b.toList || a.toList == b.toList)) ∨ (op = .gtr ∧ r = .bool (!(Op.bytesLess a.toList b.toList || a.toList == b.toList))) ∨
      (op = .add ∧ r = .string (a ++ b) ∧ a.size + b.size ≤ 9223372036854775807)) : ZPure0 P o env (.v r) := by
  refine zp_bin hop hx hy fun w => ?_
  rw [Sem.run_bind, guard_str]
  simp only [Result.andThen_ok]
  rcases hr with ⟨rfl, rfl⟩ | ⟨rfl, rfl⟩ | ⟨rfl, rfl⟩ | ⟨rfl, rfl⟩ | ⟨rfl, rfl⟩ | ⟨rfl, rfl⟩ | ⟨rfl, rfl, h⟩
  case inr.inr.inr.inr.inr.inr =>
    have : ¬ (IntKind.i64.max < ((a.size + b.size : Nat) : Int)) := by simp [IntKind.max, IntKind.signed, IntKind.bits]; omega
    have h2 : ¬ ((a.size : Int) + (b.size : Int) > IntKind.i64.max) := by simpa using this
    simp only [binOp, Op.stringOp]
    rw [if_neg this]
    rfl
  all_goals simp [binOp, Op.stringOp]

theorem zp_beq {op : BinOp} {t t' : TypeId} {x y : Operand} {a b r : Bool} (hop : o.op = .binOp op t x y t') (hx : ev env x = some (.v (.bool a))) (hy : ev env y = some (.v (.bool b))) (ht : P.underlying t = some .bool)
    (hr : (op = .eql ∧ r = (a == b)) ∨ (op = .neq ∧ r = (a != b))) : ZPure0 P o env (.v (.bool r)) := by
  refine zp_bin hop hx hy fun w => ?_
  have hg : (eqGuard op t x y (.bool a) (.bool b)).run P w = .ok () w := by unfold eqGuard; cases op <;> simp
  rw [Sem.run_bind, hg]
  simp only [Result.andThen_ok]
  rcases hr with ⟨rfl, rfl⟩ | ⟨rfl, rfl⟩
  · exact run_eql_bool w t a b ht
  · exact run_neq_bool w t a b ht

theorem zp_not {t : TypeId} {x : Operand} {b : Bool} (hop : o.op = .unOp .not t x) (hx : ev env x = some (.v (.bool b))) : ZPure0 P o env (.v (.bool (!b))) := fun G n a he => by
  have e := (ev_ok he hx).eq_v
  exact ⟨_, .v _, fun w => by simp [execOp, hop, e, Op.unary]⟩
theorem zp_neg {t : TypeId} {x : Operand} {k : IntKind} {a r : Int} (hop : o.op = .unOp .neg t x) (hx : ev env x = some (.v (.int k a))) (hr : k.wrap (0 - a) = r) : ZPure0 P o env (.v (.int k r)) := fun G n act he => by
  have e := (ev_ok he hx).eq_v
  subst hr
  exact ⟨_, .v _, fun w => by simp [execOp, hop, e, Op.unary, Op.intArith]⟩
theorem zp_conv {t u : TypeId} {x : Operand} {k k' : IntKind} {a r : Int} (hop : o.op = .convert t u x) (hx : ev env x = some (.v (.int k a))) (ht : P.underlying t = some (.int k)) (hu : P.underlying u = some (.int k')) (hr : k'.wrap a = r) :
    ZPure0 P o env (.v (.int k' r)) := fun G n act he => by
  have e := (ev_ok he hx).eq_v
  subst hr
  exact ⟨_, .v _, fun w => by simp [execOp, hop, e, convert, run_underlying ht, run_underlying hu, Conv.intToInt]⟩

/-! ### rows -/

theorem zp_len {t : TypeId} {e : TypeId} {x : Operand} {xs : List (List D)} {k tk : Nat} (hop : o.op = .call { callee := .builtin .len, args := #[x], argTypes := #[t] }) (ht : P.underlying t = some (.slice e)) (hx : ev env x = some (.row xs k tk)) :
    ZPure0 P o env (.v (.int .i64 xs.length)) := fun G n a he => by
  have hv := ev_ok he hx
  generalize hu : a.eval x = u at hv
  refine ⟨_, .v _, fun w => ?_⟩
  cases hv <;> simp_all [execOp, resolve, invoke, builtin, Builtin.len_, run_underlying ht, goInt]
theorem zp_len_nil {t : TypeId} {e : TypeId} {x : Operand} {c m : Nat} (hop : o.op = .call { callee := .builtin .len, args := #[x], argTypes := #[t] }) (ht : P.underlying t = some (.slice e)) (hx : ev env x = some (.v (.slice none m c))) :
    ZPure0 P o env (.v (.int .i64 m)) := fun G n a he => by
  have hv := (ev_ok he hx).eq_v
  refine ⟨_, .v _, fun w => ?_⟩
  simp_all [execOp, resolve, invoke, builtin, Builtin.len_, run_underlying ht, goInt]
theorem zp_len_mrow {t : TypeId} {e : TypeId} {x : Operand} {id off m c : Nat} (hop : o.op = .call { callee := .builtin .len, args := #[x], argTypes := #[t] }) (ht : P.underlying t = some (.slice e)) (hx : ev env x = some (.mrow id off m c)) :
    ZPure0 P o env (.v (.int .i64 m)) := fun G n a he => by
  have hv := ev_ok he hx
  generalize hu : a.eval x = u at hv
  refine ⟨_, .v _, fun w => ?_⟩
  cases hv; simp_all [execOp, resolve, invoke, builtin, Builtin.len_, run_underlying ht, goInt]
theorem zp_len_str {t : TypeId} {x : Operand} {s : ByteArray} (hop : o.op = .call { callee := .builtin .len, args := #[x], argTypes := #[t] }) (ht : P.underlying t = some .string) (hx : ev env x = some (.v (.string s))) :
    ZPure0 P o env (.v (.int .i64 s.size)) := fun G n a he => by
  have hv := (ev_ok he hx).eq_v
  refine ⟨_, .v _, fun w => ?_⟩
  simp_all [execOp, resolve, invoke, builtin, Builtin.len_, run_underlying ht, goInt]

theorem Addr.add_add (a : Addr) (x y : Nat) : (a.add x).add y = a.add (x + y) := by
  unfold Addr.add
  by_cases hx : x = 0
  · subst hx; simp
  · by_cases hy : y = 0
    · subst hy; simp [hx]
    · simp [hx, hy]; omega

/-- Elements i to j of a row. -/
theorem VR.cut {G : Gh} {xs : List (List D)} {k tk : Nat} {a : Addr} {n c : Nat} (h : VR G (.row xs k tk) (.slice (some a) n c)) (l m c' : Nat) (hl : l ≤ m) (hm : m ≤ n) (hc' : m - l ≤ c') (hc2 : c' ≤ maxLen) (b : Addr) (hb : l < m → b = a.add (l * k)) :
    VR G (.row ((xs.take m).drop l) k 0) (.slice (some b) (m - l) c') := by
  cases h with
  | row _ _ _ _ _ _ u hn hc hm63 hk hcell h1 hv ht =>
    refine .row _ _ _ _ _ _ (fun i j => u (l + i) j) (by simp; omega) hc' hc2 ?_ ?_ (fun i j => h1 _ _) ?_ (fun h => absurd rfl h)
    · intro i x hx
      rw [List.getElem?_drop, List.getElem?_take] at hx
      split at hx
      · exact hk _ x hx
      · cases hx
    · intro i j hi hj
      rw [hb (by omega), Addr.add_add]
      have := hcell (l + i) j (by omega) hj
      rw [Nat.add_mul] at this
      rw [← this]; congr 2; omega
    · intro i x j d hx hj
      rw [List.getElem?_drop, List.getElem?_take] at hx
      split at hx
      · exact hv _ x j d hx hj
      · cases hx

end
end Go.Proofs.Zm
