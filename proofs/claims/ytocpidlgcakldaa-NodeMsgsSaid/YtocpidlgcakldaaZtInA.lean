/- A part of the proof of NodeMsgs: walks of the functions that it reaches. No condition. -/
import Derived.Test.YtocpidlgcakldaaZtPoC
import Derived.Test.YtocpidlgcakldaaZtCl
import Derived.Test.YtocpidlgcakldaaZmP2
import Derived.Test.YtocpidlgcakldaaZmAuto
namespace Go.Proofs.ZtLe
open Go.RowKit Go.Proofs Go.Proofs.Zm
set_option linter.unusedVariables false
set_option linter.unusedSimpArgs false
set_option maxHeartbeats 20000000
set_option maxRecDepth 100000
attribute [local irreducible] ZWp ZOps ZPure ZPure0 ZVal ZOp SoundF
/-! ### values -/
abbrev MsgV := Int × Bs × Bs
def msgD (m : MsgV) : List D := [.v (.int .i64 m.1), .row (bytesD m.2.1) 1 0, .row (bytesD m.2.2) 1 0]
def msgR (l : List MsgV) : List (List D) := l.map msgD
abbrev PairV := Bs × Bs
def pairD (p : PairV) : List D := [.row (bytesD p.1) 1 0, .row (bytesD p.2) 1 0]
def pairR (l : List PairV) : List (List D) := l.map pairD
structure NodeV where
  leaf : Bool
  keys : List Bs
  vals : List Bs
  kids : List Int
  msgs : List MsgV
deriving DecidableEq
def nodeD (n : NodeV) : List D := [.v (.bool n.leaf), .row (rowR n.keys) 1 0, .row (rowR n.vals) 1 0, .row (intR n.kids) 1 0, .row (msgR n.msgs) 3 0]
def noNode : NodeV := ⟨false, [], [], [], []⟩
@[simp] theorem msgR_length (l : List MsgV) : (msgR l).length = l.length := by simp [msgR]
@[simp] theorem pairR_length (l : List PairV) : (pairR l).length = l.length := by simp [pairR]
theorem msgR_three (l : List MsgV) : ∀ x ∈ msgR l, x.length = 3 := fun x hx => by
  obtain ⟨c, _, rfl⟩ := List.mem_map.1 hx; rfl
theorem pairR_two (l : List PairV) : ∀ x ∈ pairR l, x.length = 2 := fun x hx => by
  obtain ⟨c, _, rfl⟩ := List.mem_map.1 hx; rfl
theorem msgR_append (l m : List MsgV) : msgR (l ++ m) = msgR l ++ msgR m := by simp [msgR]
theorem pairR_append (l m : List PairV) : pairR (l ++ m) = pairR l ++ pairR m := by simp [pairR]
theorem eltM {l : List MsgV} {i : Nat} (h : i < l.length) : ∃ c, l[i]? = some c ∧ l.take (i + 1) = l.take i ++ [c] ∧ l.drop i = c :: l.drop (i + 1) ∧ (msgR l).getD i [] = msgD c := by
  obtain ⟨c, h1, h2, h3, h4⟩ := elt h; exact ⟨c, h1, h2, h3, h4 _⟩
/-! ### bytes in order -/
theorem ext_cmp : ExtIs Try.prog 101 Extern.BytealgCompare.compare := ⟨_, Try.func101, by kernel_rfl, by kernel_rfl, by kernel_rfl, by kernel_rfl⟩
theorem compare_pf {l m : Bs} {tk tm : Nat} (h : True) : PureF Try.prog 88 [.row (bytesD l) 1 tk, .row (bytesD m) 1 tm] (.v (.int .i64 (Lib.compareBytes l m))) := by
  refine pure_of Try.func88 rfl Try.results88 (by rw [Try.ntmps88]; simp) (fun w0 st K hK => ?_); rw [Try.ntmps88]
  (repeat (first | ((with_reducible apply zr_seq)) | ((with_reducible apply zr_region); (try simp only [List.append_eq, List.cons_append, List.nil_append])) | ((with_reducible apply zo_end)) | ((with_reducible apply zs_move); (exact rfl); (exact rfl)) | ((with_reducible apply zs_assign); (exact rfl); (exact rfl))))
  (try ((with_reducible apply zs_yes); exact rfl; exact rfl; (first | assumption | exact rfl))); refine zo_pure rfl rfl (by decide) (zp_compare rfl ext_cmp rfl rfl) ?_
  (repeat (first | ((with_reducible apply zo_end)) | ((with_reducible apply zs_assign); (exact rfl); (exact rfl)) | ((with_reducible apply zr_retZ); (exact rfl); (repeat (first | exact resD_nil _ _ _ | ((with_reducible apply resD_tmp); (exact rfl)) | ((with_reducible apply resD_cell_agg); (exact rfl); (exact sh_of rfl); (first | assumption | exact St.setH_self _ _ _); (exact rfl)) | ((with_reducible apply resD_cell); (exact rfl); (exact sh_of rfl); (first | assumption | exact St.setH_self _ _ _); (exact rfl)))); (simp only [resOf]))))
  exact KE.mk _ (Ext.refl _) hK
theorem same_pf {l m : Bs} {tk tm : Nat} (h : True) : PureF Try.prog 19 [.row (bytesD l) 1 tk, .row (bytesD m) 1 tm] (.v (.bool (l == m))) := PureF.of same_snd fun st K hK => ⟨_, _, _, _, rfl, hK⟩
theorem samem_pf {a b : MsgV} (h : True) : PureF Try.prog 20 [.agg (msgD a), .agg (msgD b)] (.v (.bool (decide (a = b)))) := by
  refine pure_of Try.func20 rfl Try.results20 (by rw [Try.ntmps20]; simp) (fun w0 st K hK => ?_); rw [Try.ntmps20]
  (repeat (first | ((with_reducible apply zr_seq)) | ((with_reducible apply zr_region); (try simp only [List.append_eq, List.cons_append, List.nil_append])) | ((with_reducible apply zo_end)) | ((with_reducible apply zs_move); (exact rfl); (exact rfl)) | ((with_reducible apply zs_assign); (exact rfl); (exact rfl)) | ((with_reducible apply zs_eql); (exact rfl); (exact rfl); (exact rfl)) | ((with_reducible apply zs_field_ref); (exact rfl); (exact rfl); (exact fld_of rfl)) | ((with_reducible apply zs_load_ref); (exact rfl); (exact rfl); (exact sh_of rfl); (exact rfl)) | ((with_reducible apply zs_and); (exact rfl); (exact rfl); (intro hp_; first | exact congrArg some (gd_t hp_) | exact rfl); (exact rfl)) | ((with_reducible apply (zs_boxRef (t := 2))); (exact rfl); (exact rfl)) | ((with_reducible apply (zs_boxRef (t := 3))); (exact rfl); (exact rfl)) | ((with_reducible apply (zs_h_field_ref [])); (exact rfl); (first | exact GC.t rfl rfl | exact GC.f rfl rfl | exact GC.gt rfl rfl | exact GC.gf rfl rfl); (exact rfl); (intro hc_; first | exact congrArg some (gd_t hc_) | exact congrArg some (gd_t (band_l hc_)) | exact congrArg some (gd_t (band_l (band_l hc_))) | exact rfl); (intro _; exact fld_of rfl)) | ((with_reducible apply (zs_h_load_ref [])); (exact rfl); (first | exact GC.t rfl rfl | exact GC.f rfl rfl | exact GC.gt rfl rfl | exact GC.gf rfl rfl); (exact rfl); (intro hc_; first | exact congrArg some (gd_t hc_) | exact congrArg some (gd_t (band_l hc_)) | exact congrArg some (gd_t (band_l (band_l hc_))) | exact rfl); (intro _; exact sh_of rfl); (intro _; exact rfl)) | ((with_reducible apply (zs_h_callQ [] same_pf cl_19)); (exact rfl); (first | exact GC.t rfl rfl | exact GC.f rfl rfl | exact GC.gt rfl rfl | exact GC.gf rfl rfl); (exact rfl); (intro hc_; (repeat ((with_reducible apply evs_cons); (first | exact congrArg some (gd_t hc_) | exact congrArg some (gd_t (band_l hc_)) | exact rfl))); exact evs_nil); ((repeat (first | exact DLes.nil | (apply DLes.cons; first | exact DLe.refl _ | exact DLe.nilB | exact DLe.nilR | exact DLe.nilI)))); (intro hc_; first | exact trivial | assumption | ((try simp only [Bool.and_eq_true, decide_eq_true_eq, Bool.not_eq_true'] at hc_); (repeat' (with_reducible refine And.intro ?_ ?_)) <;> first | assumption | omega | exact trivial | (simp; done) | (simp; omega)))) | ((with_reducible apply zr_retZ); (exact rfl); (repeat (first | exact resD_nil _ _ _ | ((with_reducible apply resD_tmp); (exact rfl)) | ((with_reducible apply resD_cell_agg); (exact rfl); (exact sh_of rfl); (first | assumption | exact St.setH_self _ _ _); (exact rfl)) | ((with_reducible apply resD_cell); (exact rfl); (exact sh_of rfl); (first | assumption | exact St.setH_self _ _ _); (exact rfl)))); (simp only [resOf]))))
  have e : (decide (a.1 = b.1) && (a.2.1 == b.2.1) && (a.2.2 == b.2.2)) = decide (a = b) := by
    obtain ⟨a1, a2, a3⟩ := a
    obtain ⟨b1, b2, b3⟩ := b
    simp [Prod.mk.injEq, bs_beq, Bool.and_assoc]
  refine KE.mk _ (Ext.refl _) ?_
  rw [e]
  exact hK
/-! ### rows, compared -/
/-- A node whose lists are not beyond all bounds. -/
def NB (n : NodeV) : Prop := n.keys.length ≤ 4611686018427387904 ∧ n.vals.length ≤ 4611686018427387904 ∧ n.kids.length ≤ 4611686018427387904 ∧ n.msgs.length ≤ 4611686018427387904
end Go.Proofs.ZtLe
