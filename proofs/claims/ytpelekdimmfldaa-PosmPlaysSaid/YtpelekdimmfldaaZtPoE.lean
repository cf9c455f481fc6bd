/- A part of the proof of PosmBounds: walks of the functions that it reaches. No condition. -/
import Derived.Test.YtpelekdimmfldaaZtPoD
namespace Go.Proofs.ZtLe
open Go.RowKit Go.Proofs Go.Proofs.Zm
set_option linter.unusedVariables false
set_option linter.unusedSimpArgs false
set_option maxHeartbeats 20000000
attribute [local irreducible] ZWp ZOps ZPure ZPure0 ZVal ZOp SoundF

theorem eq_Pos (a b c d : Int) (w : World) : (Op.eqFields 9999 #[.int .i64 a, .int .u64 b] #[.int .i64 c, .int .u64 d] [{ name := "Leaf", type := 3, offset := 0, embedded := false, tag := "", pkgPath := "", byteOffset := 0 }, { name := "Draw", type := 28, offset := 1, embedded := false, tag := "", pkgPath := "", byteOffset := 8 }]).run Try.prog w = .ok (decide (a = c ∧ b = d)) w := by
  have h1 : ∀ w : World, (isAgg 3).run Try.prog w = .ok false w := sh_Int.2.1
  have h2 : ∀ w : World, (isAgg 28).run Try.prog w = .ok false w := sh_U64.2.1
  by_cases e1 : a = c
  · by_cases e2 : b = d <;> simp [Op.eqFields, part, h1, h2, run_equalIn_int (P := Try.prog) w _ _ _ _ _ _ Try.underlying3, run_equalIn_int (P := Try.prog) w _ _ _ _ _ _ Try.underlying28, e1, e2]
  · simp [Op.eqFields, part, h1, h2, run_equalIn_int (P := Try.prog) w _ _ _ _ _ _ Try.underlying3, run_equalIn_int (P := Try.prog) w _ _ _ _ _ _ Try.underlying28, e1]
theorem zp_eqPos {op : BinOp} {o : Oper} {env : Env} {x y : Operand} {t' : TypeId} {p q : Int × Int} (hop : o.op = .binOp op 41 x y t') (hx : ev env x = some (posD p)) (hy : ev env y = some (posD q)) (hop2 : op = .eql ∨ op = .neq) : ZPure0 Try.prog o env (.v (.bool (if op = .eql then decide (p = q) else !(decide (p = q))))) := by
  have := zp_eqA (P := Try.prog) (us := [.int .i64 p.1, .int .u64 p.2]) (vs := [.int .i64 q.1, .int .u64 q.2]) hop hx hy Try.underlying41 (by kernel_rfl) (by kernel_rfl) (fun w => eq_Pos p.1 p.2 q.1 q.2 w) hop2
  have e : decide (p.1 = q.1 ∧ p.2 = q.2) = decide (p = q) := by
    apply decide_eq_decide.2
    constructor
    · rintro ⟨a, b⟩; exact Prod.ext a b
    · rintro rfl; exact ⟨rfl, rfl⟩
  rwa [e] at this
theorem ptrP : Try.prog.underlying 37 = some (.pointer (Try.prog.pointee 37)) := by kernel_rfl
end Go.Proofs.ZtLe
