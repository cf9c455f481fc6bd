/- A part of the proof of LeafRoom: walks of the functions that it reaches. No condition. -/
import Derived.Test.YtocpidlgcakldaaZtInA
import Derived.Test.YtocpidlgcakldaaZmAuto
namespace Go.Proofs.ZtLe
open Go.RowKit Go.Proofs Go.Proofs.Zm
set_option linter.unusedVariables false
set_option linter.unusedSimpArgs false
set_option maxHeartbeats 20000000
set_option maxRecDepth 100000
attribute [local irreducible] ZWp ZOps ZPure ZPure0 ZVal ZOp SoundF

/-! ### slices.Clone -/
theorem clone_own : SoundF Try.prog 68 fun args st K => ∃ xs, (∃ (l : List UInt8) (tk : Nat), args = [.row (bytesD l) 1 tk] ∧ l.length ≤ 140737488355328 ∧ xs = bytesD l) ∧ ownR st 1 xs K := by
  refine sound_ofA Try.func68 rfl Try.results68 ?_
  rintro w0 args st K ⟨xs, ⟨l, tk, rfl, hl, rfl⟩, hK⟩
  rw [Try.ntmps68]; refine ⟨by simp, ?_⟩
  (repeat (first | ((with_reducible apply zr_seq)) | ((with_reducible apply zr_region); (try simp only [List.append_eq, List.cons_append, List.nil_append])) | ((with_reducible apply zo_end)) | ((with_reducible apply zs_move); (exact rfl); (exact rfl)) | ((with_reducible apply zs_assign); (exact rfl); (exact rfl))))
  refine zs_rowEqNil rfl rfl zq39 fun b hb => ?_
  (repeat (first | ((with_reducible apply zo_end))))
  (first | refine zr_cond rfl (fun h => ?_) (fun h => ?_) | refine zs_split rfl rfl (fun h => ?_) (fun h => ?_)) <;> have h' := h <;> (try simp only [decide_eq_true_eq, decide_eq_false_iff_not, Bool.and_eq_true, Bool.or_eq_true, Bool.and_eq_false_iff, Bool.or_eq_false_iff, Bool.not_eq_true', Bool.not_eq_false', Bool.not_eq_true, Bool.not_eq_false, Int.not_le, Int.not_lt, Classical.not_not, Decidable.not_not, ne_eq, beq_iff_eq, bne_iff_ne] at h')
  · have hl0 := hb h
    (repeat (first | ((with_reducible apply zr_seq)) | ((with_reducible apply zr_region); (try simp only [List.append_eq, List.cons_append, List.nil_append])) | ((with_reducible apply zo_end)) | ((with_reducible apply zs_assign); (exact rfl); (exact rfl)) | ((with_reducible apply zr_retZ); (exact rfl); (repeat (first | exact resD_nil _ _ _ | ((with_reducible apply resD_tmp); (exact rfl)) | ((with_reducible apply resD_cell_agg); (exact rfl); (exact sh_of rfl); (first | assumption | exact St.setH_self _ _ _); (exact rfl)) | ((with_reducible apply resD_cell); (exact rfl); (exact sh_of rfl); (first | assumption | exact St.setH_self _ _ _); (exact rfl)))); (simp only [resOf]))))
    rw [hl0] at hK
    exact KE.mk st (Ext.refl _) (hK none 0 [] st ((Sep.nil st).addNone []) (GRow.empty 1))
  · (repeat (first | ((with_reducible apply zr_seq)) | ((with_reducible apply zr_region); (try simp only [List.append_eq, List.cons_append, List.nil_append])) | ((with_reducible apply zr_skip'))))
    (try ((with_reducible apply zs_yes); exact rfl; exact rfl; (first | assumption | exact rfl))); refine zo_val rfl rfl (by decide) (zv_buildSlice_own (xs := []) rfl rfl el_U8 zq39 rfl (by simp) (by decide) fun id hid => ?_)
    have hS := (Sep.nil st).alloc hid ((([] : List D).map cellsD).flatten)
    (repeat (first | ((with_reducible apply zs_move); (exact rfl); (exact rfl))))
    (try ((with_reducible apply zs_yes); exact rfl; exact rfl; (first | assumption | exact rfl))); refine zo_val rfl rfl (by decide) (zv_sapp (i := 0) (ob := some id) (m := 0) (c := 0) (full := ((([] : List D).map cellsD).flatten)) (cells := []) rfl el_U8 zq35 zq39 rfl hS rfl ⟨rfl, Nat.le_refl _, fun e => (by cases e), rfl⟩ rfl (by simp; omega) fun o' c' full' st' hS' hg' => ?_)
    rw [Nat.zero_add] at hg' ⊢
    rw [List.nil_append] at hg'
    (repeat (first | ((with_reducible apply zo_end)) | ((with_reducible apply zs_assign); (exact rfl); (exact rfl)) | ((with_reducible apply zr_retZ); (exact rfl); (repeat (first | exact resD_nil _ _ _ | ((with_reducible apply resD_tmp); (exact rfl)) | ((with_reducible apply resD_cell_agg); (exact rfl); (exact sh_of rfl); (first | assumption | exact St.setH_self _ _ _); (exact rfl)) | ((with_reducible apply resD_cell); (exact rfl); (exact sh_of rfl); (first | assumption | exact St.setH_self _ _ _); (exact rfl)))); (simp only [resOf]))))
    exact KE.mk st' (Ext.refl _) (hK o' c' full' st' hS' hg')
theorem clone_pf {l : Bs} {tk : Nat} (h : l.length ≤ 140737488355328) : PureF Try.prog 68 [.row (bytesD l) 1 tk] (.row (bytesD l) 1 0) :=
  PureF.of (SoundF.frozen (by decide) clone_own) fun st K hK => ⟨_, ⟨l, tk, rfl, h, rfl⟩, bytesD_one l, hK⟩

/-! ### places among keys -/
end Go.Proofs.ZtLe
