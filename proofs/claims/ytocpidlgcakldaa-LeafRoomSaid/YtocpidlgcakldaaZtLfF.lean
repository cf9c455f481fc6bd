/- A part of the proof of LeafRoom: walks of the functions that it reaches. No condition. -/
import Derived.Test.YtocpidlgcakldaaZtLfD
import Derived.Test.YtocpidlgcakldaaZmAuto
namespace Go.Proofs.ZtLe
open Go.RowKit Go.Proofs Go.Proofs.Zm
set_option linter.unusedVariables false
set_option linter.unusedSimpArgs false
set_option maxHeartbeats 20000000
set_option maxRecDepth 100000
attribute [local irreducible] ZWp ZOps ZPure ZPure0 ZVal ZOp SoundF

/-! ### dumbwaiterref18: Half, Build -/
theorem rup_pf {a : Int} (h : 0 ≤ a ∧ a ≤ 4611686018427387904) : PureF Try.prog 74 [.v (.int .i64 a), .v (.int .i64 2)] (.v (.int .i64 ((a + 1) / 2))) := by
  refine pure_of Try.func74 rfl Try.results74 (by rw [Try.ntmps74]; simp) (fun w0 st K hK => ?_); rw [Try.ntmps74]
  obtain ⟨h0, h1⟩ := h
  have hq : IntKind.i64.wrap ((a + 2 - 1).tdiv 2) = (a + 1) / 2 := by
    rw [Int.tdiv_eq_ediv_of_nonneg (by omega), show a + 2 - 1 = a + 1 by omega]
    exact wrap_in64 (by omega) (by omega)
  (repeat (first | ((with_reducible apply zr_seq)) | ((with_reducible apply zr_region); (try simp only [List.append_eq, List.cons_append, List.nil_append])) | ((with_reducible apply zo_end)) | ((with_reducible apply zs_move); (exact rfl); (exact rfl)) | ((with_reducible apply zs_assign); (exact rfl); (exact rfl)) | ((with_reducible apply zs_add); (exact rfl); (exact rfl); (exact rfl); (first | (with_reducible assumption) | exact wrap_in64 (by omega) (by omega))) | ((with_reducible apply zs_sub); (exact rfl); (exact rfl); (exact rfl); (first | (with_reducible assumption) | exact wrap_in64 (by omega) (by omega))) | ((with_reducible apply zs_quo); (exact rfl); (exact rfl); (exact rfl); (decide); ((with_reducible assumption))) | ((with_reducible apply zr_retZ); (exact rfl); (repeat (first | exact resD_nil _ _ _ | ((with_reducible apply resD_tmp); (exact rfl)) | ((with_reducible apply resD_cell_agg); (exact rfl); (exact sh_of rfl); (first | assumption | exact St.setH_self _ _ _ | exact Sep.at_ (i := 0) zq40 rfl | exact Sep.at_ (i := 1) zq40 rfl | exact Sep.at_ (i := 2) zq40 rfl | exact Sep.at_ (i := 3) zq40 rfl | exact Sep.at_ (i := 4) zq40 rfl | exact Sep.at_ (i := 5) zq40 rfl | exact Sep.at_ (i := 6) zq40 rfl); (exact rfl)) | ((with_reducible apply resD_cell); (exact rfl); (exact sh_of rfl); (first | assumption | exact St.setH_self _ _ _ | exact Sep.at_ (i := 0) zq40 rfl | exact Sep.at_ (i := 1) zq40 rfl | exact Sep.at_ (i := 2) zq40 rfl | exact Sep.at_ (i := 3) zq40 rfl | exact Sep.at_ (i := 4) zq40 rfl | exact Sep.at_ (i := 5) zq40 rfl | exact Sep.at_ (i := 6) zq40 rfl); (exact rfl)))); (simp only [resOf]))))
  exact KE.mk _ (Ext.refl _) hK
def chR (l : List (List PairV)) : List (List D) := l.map fun x => [D.row (pairR x) 2 0]
@[simp] theorem chR_length (l : List (List PairV)) : (chR l).length = l.length := by simp [chR]
theorem chR_append (l m : List (List PairV)) : chR (l ++ m) = chR l ++ chR m := by simp [chR]
end Go.Proofs.ZtLe
