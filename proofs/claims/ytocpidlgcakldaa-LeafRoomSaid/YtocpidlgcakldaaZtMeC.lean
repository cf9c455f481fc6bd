/- A part of the proof of LeafRoom: walks of the functions that it reaches. No condition. -/
import Derived.Test.YtocpidlgcakldaaZtMeB
import Derived.Test.YtocpidlgcakldaaZmAuto
namespace Go.Proofs.ZtLe
open Go.RowKit Go.Proofs Go.Proofs.Zm
set_option linter.unusedVariables false
set_option linter.unusedSimpArgs false
set_option maxHeartbeats 20000000
set_option maxRecDepth 100000
attribute [local irreducible] ZWp ZOps ZPure ZPure0 ZVal ZOp SoundF

/-! ### bytes.Equal, mesg.Of, the pairs' order -/
def isOf (key : Bs) (m : MsgV) : Bool := decide (1 ≤ m.1) && decide (m.1 ≤ 3) && (m.2.1 == key)
def ofL (key : Bs) (l : List MsgV) : List MsgV := l.filter (isOf key)
theorem mcmp_pf {x : PairV} {key : Bs} {tk : Nat} (h : True) : PureF Try.prog 97 [.agg (pairD x), .row (bytesD key) 1 tk] (.v (.int .i64 (Lib.compareBytes x.1 key))) := by
  refine pure_of Try.func97 rfl Try.results97 (by rw [Try.ntmps97]; simp) (fun w0 st K hK => ?_); rw [Try.ntmps97]
  refine zr_as 1 (.row (bytesD key) 1 0) rfl zq8 ?_
  (repeat (first | ((with_reducible apply zr_seq)) | ((with_reducible apply zr_region); (try simp only [List.append_eq, List.cons_append, List.nil_append])) | ((with_reducible apply zo_end)) | ((with_reducible apply zs_move); (exact rfl); (exact rfl)) | ((with_reducible apply zs_assign); (exact rfl); (exact rfl)) | ((with_reducible apply zs_field_ref); (exact rfl); (exact rfl); (exact fld_of rfl)) | ((with_reducible apply zs_load_ref); (exact rfl); (exact rfl); (exact sh_of rfl); (exact rfl)) | ((with_reducible apply (zs_boxRef (t := 2))); (exact rfl); (exact rfl)) | ((with_reducible apply (zs_callQ compare_pf cl_88)); (exact rfl); (exact rfl); ((repeat (first | exact DLes.nil | (apply DLes.cons; first | exact DLe.refl _ | exact DLe.nilB | exact DLe.nilR | exact DLe.nilI)))); (first | exact trivial | assumption | ((repeat' (with_reducible refine And.intro ?_ ?_)) <;> first | assumption | omega | exact trivial | (simp; done) | (simp; omega)))) | ((with_reducible apply zr_retZ); (exact rfl); (repeat (first | exact resD_nil _ _ _ | ((with_reducible apply resD_tmp); (exact rfl)) | ((with_reducible apply resD_cell_agg); (exact rfl); (exact sh_of rfl); (first | assumption | exact St.setH_self _ _ _ | exact Sep.at_ (i := 0) zq40 rfl | exact Sep.at_ (i := 1) zq40 rfl | exact Sep.at_ (i := 2) zq40 rfl | exact Sep.at_ (i := 3) zq40 rfl | exact Sep.at_ (i := 4) zq40 rfl | exact Sep.at_ (i := 5) zq40 rfl | exact Sep.at_ (i := 6) zq40 rfl); (exact rfl)) | ((with_reducible apply resD_cell); (exact rfl); (exact sh_of rfl); (first | assumption | exact St.setH_self _ _ _ | exact Sep.at_ (i := 0) zq40 rfl | exact Sep.at_ (i := 1) zq40 rfl | exact Sep.at_ (i := 2) zq40 rfl | exact Sep.at_ (i := 3) zq40 rfl | exact Sep.at_ (i := 4) zq40 rfl | exact Sep.at_ (i := 5) zq40 rfl | exact Sep.at_ (i := 6) zq40 rfl); (exact rfl)))); (simp only [resOf]))))
  exact KE.mk _ (Ext.refl _) hK
end Go.Proofs.ZtLe
