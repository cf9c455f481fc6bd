/- A part of the proof of InneParts: walks of the functions that it reaches. No condition. -/
import Derived.Test.YtjkocjjcdjjdiaaZtInB
import Derived.Test.YtjkocjjcdjjdiaaZmAuto
namespace Go.Proofs.ZtLe
open Go.RowKit Go.Proofs Go.Proofs.Zm
set_option linter.unusedVariables false
set_option linter.unusedSimpArgs false
set_option maxHeartbeats 20000000
set_option maxRecDepth 100000
attribute [local irreducible] ZWp ZOps ZPure ZPure0 ZVal ZOp SoundF

/-! ### inne.Span -/
/-- Keys that are not beyond all bounds. -/
def KB (l : List Bs) : Prop := l.length ≤ 2147483648 ∧ ∀ b ∈ l, b.length ≤ 2147483648
theorem KB.at {l : List Bs} (h : KB l) {i : Nat} {c : Bs} (hc : l[i]? = some c) : c.length ≤ 2147483648 := h.2 _ (List.mem_of_getElem? hc)
def loL (l : List Bs) (k : Nat) : Bs := if k = 0 then [] else l.getD (k - 1) []
def hiL (l : List Bs) (k : Nat) : Bs := l.getD k []
theorem getD_of {α : Type} {l : List α} {i : Nat} {c z : α} (h : l[i]? = some c) : l.getD i z = c := by rw [List.getD_eq_getElem?_getD, h]; rfl
theorem getD_out {α : Type} {l : List α} {i : Nat} {z : α} (h : l.length ≤ i) : l.getD i z = z := by rw [List.getD_eq_getElem?_getD, List.getElem?_eq_none h]; rfl
theorem span_pf {n : NodeV} {k : Nat} (h : KB n.keys ∧ k ≤ 4611686018427387904) : PureF Try.prog 12 [.agg (nodeD n), .v (.int .i64 (k : Nat))] (.tup [.row (bytesD (loL n.keys k)) 1 0, .row (bytesD (hiL n.keys k)) 1 0]) := by
  obtain ⟨hkb, hk⟩ := h
  have hl := hkb.1
  refine pure_of Try.func12 rfl Try.results12 (by rw [Try.ntmps12]; simp) (fun w0 st K hK => ?_); rw [Try.ntmps12]
  (repeat (first | ((with_reducible apply zr_seq)) | ((with_reducible apply zr_region); (try simp only [List.append_eq, List.cons_append, List.nil_append])) | ((with_reducible apply zo_end)) | ((with_reducible apply zs_move); (exact rfl); (exact rfl)) | ((with_reducible apply zs_assign); (exact rfl); (exact rfl)) | ((with_reducible apply zs_gtr); (exact rfl); (exact rfl); (exact rfl)) | ((with_reducible apply zs_and); (exact rfl); (exact rfl); (intro hp_; first | exact congrArg some (gd_t hp_) | exact rfl); (exact rfl)) | ((with_reducible apply (zs_boxRef (t := 2))); (exact rfl); (exact rfl)) | ((with_reducible apply (zs_h_move [])); (exact rfl); (first | exact GC.t rfl rfl | exact GC.f rfl rfl | exact GC.gt rfl rfl | exact GC.gf rfl rfl); (exact rfl); (intro hc_; first | exact congrArg some (gd_t hc_) | exact congrArg some (gd_t (band_l hc_)) | exact congrArg some (gd_t (band_l (band_l hc_))) | exact rfl)) | ((with_reducible apply (zs_h_leq [])); (exact rfl); (first | exact GC.t rfl rfl | exact GC.f rfl rfl | exact GC.gt rfl rfl | exact GC.gf rfl rfl); (exact rfl); (intro hc_; first | exact congrArg some (gd_t hc_) | exact congrArg some (gd_t (band_l hc_)) | exact congrArg some (gd_t (band_l (band_l hc_))) | exact rfl); (intro hc_; first | exact congrArg some (gd_t hc_) | exact congrArg some (gd_t (band_l hc_)) | exact congrArg some (gd_t (band_l (band_l hc_))) | exact rfl)) | ((with_reducible apply (zs_h_len [])); (exact rfl); (first | exact GC.t rfl rfl | exact GC.f rfl rfl | exact GC.gt rfl rfl | exact GC.gf rfl rfl); (exact rfl); (exact un_sl rfl); (intro hc_; first | exact congrArg some (gd_t hc_) | exact congrArg some (gd_t (band_l hc_)) | exact congrArg some (gd_t (band_l (band_l hc_))) | exact rfl)) | ((with_reducible apply (zs_h_field_ref [])); (exact rfl); (first | exact GC.t rfl rfl | exact GC.f rfl rfl | exact GC.gt rfl rfl | exact GC.gf rfl rfl); (exact rfl); (intro hc_; first | exact congrArg some (gd_t hc_) | exact congrArg some (gd_t (band_l hc_)) | exact congrArg some (gd_t (band_l (band_l hc_))) | exact rfl); (intro _; exact fld_of rfl)) | ((with_reducible apply (zs_h_load_ref [])); (exact rfl); (first | exact GC.t rfl rfl | exact GC.f rfl rfl | exact GC.gt rfl rfl | exact GC.gf rfl rfl); (exact rfl); (intro hc_; first | exact congrArg some (gd_t hc_) | exact congrArg some (gd_t (band_l hc_)) | exact congrArg some (gd_t (band_l (band_l hc_))) | exact rfl); (intro _; exact sh_of rfl); (intro _; exact rfl))))
  refine zr_cutK [1, 2, 5] (fun e s => e = [(4, .row (bytesD (loL n.keys k)) 1 0)] ∧ s = st) zq17 ?_ ?_
  · (first | refine zr_cond rfl (fun h1 => ?_) (fun h1 => ?_) | refine zs_split rfl rfl (fun h1 => ?_) (fun h1 => ?_)) <;> have h1' := h1 <;> (try simp only [decide_eq_true_eq, decide_eq_false_iff_not, Bool.and_eq_true, Bool.or_eq_true, Bool.and_eq_false_iff, Bool.or_eq_false_iff, Bool.not_eq_true', Bool.not_eq_false', Bool.not_eq_true, Bool.not_eq_false, Int.not_le, Int.not_lt, Classical.not_not, Decidable.not_not, ne_eq, beq_iff_eq, bne_iff_ne] at h1')
    · obtain ⟨c, hc, _, _, hcg⟩ := eltK (l := n.keys) (i := k - 1) (by simp only [rowR_length] at h1'; omega)
      have hcl := hkb.at hc
      have e : loL n.keys k = c := by unfold loL; rw [if_neg (by omega), getD_of hc]
      rw [e]
      have e2 : (k : Int) - 1 = ((k - 1 : Nat) : Int) := by omega
      have hw : IntKind.i64.wrap ((k : Int) - 1) = ((k - 1 : Nat) : Int) := by rw [wrap_in64 (by omega) (by omega)]; exact e2
      (repeat (first | ((with_reducible apply zr_region); (try simp only [List.append_eq, List.cons_append, List.nil_append])) | ((with_reducible apply zo_end)) | ((with_reducible apply zs_move); (exact rfl); (exact rfl)) | ((with_reducible apply zs_assign); (exact rfl); (exact rfl)) | ((with_reducible apply zs_sub); (exact rfl); (exact rfl); (exact rfl); (first | (with_reducible assumption) | exact wrap_in64 (by omega) (by omega))) | ((with_reducible apply zs_field_ref); (exact rfl); (exact rfl); (exact fld_of rfl)) | ((with_reducible apply zs_load_ref); (exact rfl); (exact rfl); (exact sh_of rfl); (exact rfl)) | ((with_reducible apply zs_idxE); (exact rfl); (exact rfl); (exact rfl); (exact un_sl rfl); (exact ii_of rfl); (first | omega | (simp only [List.length_map, List.length_take, List.length_drop, List.length_append, List.length_cons, List.length_nil, List.length_replicate, rowR_length, intR_length, msgR_length, pairR_length]; omega) | decide); (first | omega | (simp only [List.length_map, List.length_take, List.length_drop, List.length_append, List.length_cons, List.length_nil, List.length_replicate, rowR_length, intR_length, msgR_length, pairR_length]; omega) | decide); (first | (with_reducible exact Int.toNat_natCast _) | (simp only [Int.reduceToNat]; exact rfl) | exact rfl); (assumption)) | ((with_reducible apply (zs_callQ clone_pf cl_30)); (exact rfl); (exact rfl); ((repeat (first | exact DLes.nil | (apply DLes.cons; first | exact DLe.refl _ | exact DLe.nilB | exact DLe.nilR | exact DLe.nilI)))); (first | exact trivial | assumption | ((repeat' (with_reducible refine And.intro ?_ ?_)) <;> first | assumption | omega | exact trivial | (simp; done) | (simp; omega))))))
      exact ⟨_, ⟨rfl, rfl⟩, zq20, zq20⟩
    · have e : loL n.keys k = [] := by
        unfold loL
        split
        · rfl
        · exact getD_out (by simp only [rowR_length] at h1'; omega)
      rw [e]
      refine zr_as 4 (.row (bytesD []) 1 0) rfl zq6 ?_
      (repeat (first | ((with_reducible apply zr_skip'))))
      exact ⟨_, ⟨rfl, rfl⟩, zq20, zq20⟩
  rintro e s ⟨rfl, rfl⟩
  (repeat (first | ((with_reducible apply zr_seq)) | ((with_reducible apply zr_region); (try simp only [List.append_eq, List.cons_append, List.nil_append])) | ((with_reducible apply zo_end)) | ((with_reducible apply zs_yes); (exact rfl); (exact rfl); (first | assumption | exact rfl)) | ((with_reducible apply zs_move); (exact rfl); (exact rfl)) | ((with_reducible apply zs_lss); (exact rfl); (exact rfl); (exact rfl)) | ((with_reducible apply zs_geq); (exact rfl); (exact rfl); (exact rfl)) | ((with_reducible apply zs_pick_t); (exact rfl); (exact rfl); (first | assumption | exact rfl); (exact rfl)) | ((with_reducible apply zs_len); (exact rfl); (exact rfl); (exact un_sl rfl)) | ((with_reducible apply zs_field_ref); (exact rfl); (exact rfl); (exact fld_of rfl)) | ((with_reducible apply zs_load_ref); (exact rfl); (exact rfl); (exact sh_of rfl); (exact rfl))))
  (first | refine zr_cond rfl (fun h1 => ?_) (fun h1 => ?_) | refine zs_split rfl rfl (fun h1 => ?_) (fun h1 => ?_)) <;> have h1' := h1 <;> (try simp only [decide_eq_true_eq, decide_eq_false_iff_not, Bool.and_eq_true, Bool.or_eq_true, Bool.and_eq_false_iff, Bool.or_eq_false_iff, Bool.not_eq_true', Bool.not_eq_false', Bool.not_eq_true, Bool.not_eq_false, Int.not_le, Int.not_lt, Classical.not_not, Decidable.not_not, ne_eq, beq_iff_eq, bne_iff_ne] at h1')
  · obtain ⟨c, hc, _, _, hcg⟩ := eltK (l := n.keys) (i := k) (by simp only [rowR_length] at h1'; omega)
    have hcl := hkb.at hc
    have e : hiL n.keys k = c := getD_of hc
    rw [e] at hK
    (repeat (first | ((with_reducible apply zr_seq)) | ((with_reducible apply zr_region); (try simp only [List.append_eq, List.cons_append, List.nil_append])) | ((with_reducible apply zo_end)) | ((with_reducible apply zs_move); (exact rfl); (exact rfl)) | ((with_reducible apply zs_assign); (exact rfl); (exact rfl)) | ((with_reducible apply zs_field_ref); (exact rfl); (exact rfl); (exact fld_of rfl)) | ((with_reducible apply zs_load_ref); (exact rfl); (exact rfl); (exact sh_of rfl); (exact rfl)) | ((with_reducible apply zs_idxE); (exact rfl); (exact rfl); (exact rfl); (exact un_sl rfl); (exact ii_of rfl); (first | omega | (simp only [List.length_map, List.length_take, List.length_drop, List.length_append, List.length_cons, List.length_nil, List.length_replicate, rowR_length, intR_length, msgR_length, pairR_length]; omega) | decide); (first | omega | (simp only [List.length_map, List.length_take, List.length_drop, List.length_append, List.length_cons, List.length_nil, List.length_replicate, rowR_length, intR_length, msgR_length, pairR_length]; omega) | decide); (first | (with_reducible exact Int.toNat_natCast _) | (simp only [Int.reduceToNat]; exact rfl) | exact rfl); (assumption)) | ((with_reducible apply (zs_callQ clone_pf cl_30)); (exact rfl); (exact rfl); ((repeat (first | exact DLes.nil | (apply DLes.cons; first | exact DLe.refl _ | exact DLe.nilB | exact DLe.nilR | exact DLe.nilI)))); (first | exact trivial | assumption | ((repeat' (with_reducible refine And.intro ?_ ?_)) <;> first | assumption | omega | exact trivial | (simp; done) | (simp; omega)))) | ((with_reducible apply zr_retZ); (exact rfl); (repeat (first | exact resD_nil _ _ _ | ((with_reducible apply resD_tmp); (exact rfl)) | ((with_reducible apply resD_cell_agg); (exact rfl); (exact sh_of rfl); (first | assumption | exact St.setH_self _ _ _); (exact rfl)) | ((with_reducible apply resD_cell); (exact rfl); (exact sh_of rfl); (first | assumption | exact St.setH_self _ _ _); (exact rfl)))); (simp only [resOf]))))
    exact KE.mk _ (Ext.refl _) hK
  · have e : hiL n.keys k = [] := getD_out (by simp only [rowR_length] at h1'; omega)
    rw [e] at hK
    refine zr_as 5 (.row (bytesD []) 1 0) rfl zq6 ?_
    (repeat (first | ((with_reducible apply zr_seq)) | ((with_reducible apply zr_region); (try simp only [List.append_eq, List.cons_append, List.nil_append])) | ((with_reducible apply zo_end)) | ((with_reducible apply zs_move); (exact rfl); (exact rfl)) | ((with_reducible apply zs_assign); (exact rfl); (exact rfl)) | ((with_reducible apply zr_skip')) | ((with_reducible apply zr_retZ); (exact rfl); (repeat (first | exact resD_nil _ _ _ | ((with_reducible apply resD_tmp); (exact rfl)) | ((with_reducible apply resD_cell_agg); (exact rfl); (exact sh_of rfl); (first | assumption | exact St.setH_self _ _ _); (exact rfl)) | ((with_reducible apply resD_cell); (exact rfl); (exact sh_of rfl); (first | assumption | exact St.setH_self _ _ _); (exact rfl)))); (simp only [resOf]))))
    exact KE.mk _ (Ext.refl _) hK

/-! ### the document's way -/
end Go.Proofs.ZtLe
