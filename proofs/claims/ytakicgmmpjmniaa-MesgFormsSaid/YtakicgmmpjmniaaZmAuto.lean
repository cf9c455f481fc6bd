/- The claim's short names for proofs that are found by one and the same way: each is a proof of what is asked, by its default. No condition. -/
import Derived.KernelRfl
namespace Go.Proofs.Zm
set_option linter.unusedVariables false
theorem zq0 {p : Prop} (h : p := by first | (simp only [fillD, cellsD, cells_orow, List.take_zero, List.take_succ_cons, List.take_nil, List.drop_succ_cons, List.drop_zero, List.drop_nil, List.nil_append, List.cons_append, List.append_nil, Nat.zero_add, Nat.reduceAdd, List.length_cons, List.length_nil]; exact rfl) | ((repeat (apply fillD_cons; exact rfl; (first | exact rfl | simp [cells_orow]); (exact Nat.le_of_ble_eq_true rfl); (simp only [cells_orow, cD_int, cD_bool, cD_float, cD_nil, cD_ptr0, cD_str, cD_row, cD_mrow, cD_ptr, cD_ref, cD_fn, cD_agg, List.take_zero, List.take_succ_cons, List.take_nil, List.drop_succ_cons, List.drop_zero, List.drop_nil, List.nil_append, List.cons_append, List.append_nil, Nat.zero_add, Nat.reduceAdd]; exact rfl))); exact rfl) | exact rfl) : p := h
theorem zq1 {p : Prop} (h : p := by first | exact DLe.refl _ | exact DLe.nilB | exact DLe.nilR | exact DLe.nilI | exact dle_m3 | exact dle_m2 | exact dle_m0 | exact dle_p1 | exact dle_m12 | exact DLe.tok | exact DLe.nil _ | (refine DLe.agg ?_; (repeat (first | exact DLes.nil | (apply DLes.cons; first | exact DLe.refl _ | exact DLe.nilB | exact DLe.nilR | exact DLe.nilI | exact dle_m3 | exact dle_m2 | exact dle_m0 | exact dle_p1 | exact dle_m12 | exact DLe.tok | exact DLe.nil _))))) : p := h
theorem zq2 {p : Prop} (h : p := by first | (simp only [cells_orow, cD_int, cD_bool, cD_float, cD_nil, cD_ptr0, cD_str, cD_row, cD_mrow, cD_ptr, cD_ref, cD_fn, cD_agg, List.take_zero, List.take_succ_cons, List.take_nil, List.drop_succ_cons, List.drop_zero, List.drop_nil, List.nil_append, List.cons_append, List.append_nil, Nat.zero_add, Nat.reduceAdd]; exact rfl) | exact rfl) : p := h
theorem zq3 {p : Prop} (h : p := by first | assumption | exact Sep.at_ (i := 0) (by assumption) rfl | exact Sep.at_ (i := 1) (by assumption) rfl | exact Sep.at_ (i := 2) (by assumption) rfl | exact Sep.at_ (i := 3) (by assumption) rfl | exact Sep.at_ (i := 4) (by assumption) rfl | exact Sep.at_ (i := 5) (by assumption) rfl | exact Sep.at_ (i := 6) (by assumption) rfl) : p := h
theorem zq4 {p : Prop} (h : p := by simp only [List.take_succ_cons, List.take_zero, List.length_cons, List.length_nil, Nat.zero_add]; (repeat (first | exact DLes.nil | (apply DLes.cons; first | exact DLe.refl _ | exact DLe.nilB | exact DLe.nilR | exact DLe.nilI | exact dle_m3 | exact dle_m2 | exact dle_m0 | exact dle_p1 | exact dle_m12)))) : p := h
theorem zq5 {p : Prop} (h : p := by first | exact DLe.refl _ | exact DLe.nilB | exact DLe.nilR | exact DLe.nilI | exact DLe.tok | exact DLe.nil _ | (refine DLe.agg ?_; (repeat (first | exact DLes.nil | (apply DLes.cons; first | exact DLe.refl _ | exact DLe.nilB | exact DLe.nilR | exact DLe.nilI | exact DLe.tok | exact DLe.nil _))))) : p := h
theorem zq6 {p : Prop} (h : p := by first | exact (zp_lenB rfl (by exact un_sl rfl) rfl).pure | exact (zp_len rfl (by exact un_sl rfl) rfl).pure | exact (zp_len_nil rfl (by exact un_sl rfl) rfl).pure | exact (zp_len_orow rfl rfl (by exact un_sl rfl) (by exact GRow.nil0 (by assumption))).pure) : p := h
theorem zq7 {p : Prop} (h : p := by first | omega | (simp only [List.length_map, List.length_take, List.length_drop, List.length_append, List.length_cons, List.length_nil, List.length_replicate, rowR_length, intR_length, msgR_length, pairR_length]; omega) | decide) : p := h
theorem zq8 {p : Prop} (h : p := by (repeat (first | exact DLes.nil | (apply DLes.cons; first | exact DLe.refl _ | exact DLe.nilB | exact DLe.nilR | exact DLe.nilI | exact dle_m3 | exact dle_m2 | exact dle_m0 | exact dle_p1 | exact dle_m12)))) : p := h
theorem zq9 {p : Prop} (h : p := by simp only [List.length_map, List.length_cons, List.length_nil, List.length_take, List.length_drop, List.length_append, rowR_length, intR_length, msgR_length, pairR_length]; omega) : p := h
theorem zq10 {p : Prop} (h : p := by first | exact trivial | assumption | ((repeat' (with_reducible refine And.intro ?_ ?_)) <;> first | assumption | omega | exact trivial | (simp; done) | (simp; omega))) : p := h
theorem zq11 {p : Prop} (h : p := by first | exact .inl (g_not rfl rfl rfl (by first | assumption | rfl | (simp only [Bool.not_false, Bool.not_true]; assumption))) | exact .inr ⟨_, _, _, rfl, rfl, rfl⟩) : p := h
theorem zq12 {p : Prop} (h : p := by (repeat (first | exact lit_nil | (apply lit_cons; exact rfl; (repeat (first | exact one_nil | (apply one_cons; (first | exact rfl | exact one_orow _ _ _)))))))) : p := h
theorem zq13 {p : Prop} (h : p := by first | (left; omega) | (right; omega) | (left; decide) | (right; simp only [List.length_map, rowR_length, intR_length, msgR_length, pairR_length]; omega)) : p := h
theorem zq14 {p : Prop} (h : p := by first | exact ZPure0.pure (zp_pick_t rfl rfl (by first | assumption | rfl) rfl) | exact ZPure0.pure (zp_pick_f rfl rfl (by first | assumption | rfl) rfl)) : p := h
theorem zq15 {p : Prop} (h : p := by first | exact ZPure0.pure (zp_fieldAddr_ptr rfl (by exact fld_of rfl) rfl) | exact ZPure0.pure (zp_fieldAddr_ref rfl (by exact fld_of rfl) rfl)) : p := h
theorem zq16 {p : Prop} (h : p := by rw [hsu]; exact (by repeat (first | exact sub_nil _ | refine sub_cons rfl ?_ | refine sub_cons (by first | rfl | (simp [zlook]; done)) ?_))) : p := h
theorem zq17 {p : Prop} (h : p := by (repeat (first | (with_reducible exact keep_nil) | ((with_reducible apply keep_cons); (exact rfl)) | (with_reducible apply keep_skip)))) : p := h
theorem zq18 {p : Prop} (h : p := by (repeat (first | exact DLes.nil | (apply DLes.cons; first | exact DLe.refl _ | exact DLe.nilB | exact DLe.nilR | exact DLe.nilI)))) : p := h
theorem zq19 {p : Prop} (h : p := by ((try rw [cells_orow]); repeat (first | exact one_nil | (apply one_cons; (first | exact rfl | exact one_orow _ _ _))))) : p := h
theorem zq20 {p : Prop} (h : p := by repeat (first | exact sub_nil _ | refine sub_cons rfl ?_ | refine sub_cons (by first | rfl | (simp [zlook]; done)) ?_)) : p := h
theorem zq21 {p : Prop} (h : p := by first | (with_reducible exact Int.toNat_natCast _) | (simp only [Int.reduceToNat]; exact rfl) | exact rfl) : p := h
theorem zq22 {p : Prop} (h : p := by first | exact Nat.le_of_ble_eq_true rfl | omega | simp [cellsD, msgD, nodeD, pairD]) : p := h
theorem zq23 {p : Prop} (h : p := by first | exact g_none rfl | exact g_met rfl rfl rfl (by first | assumption | rfl)) : p := h
theorem zq24 {p : Prop} (h : p := by simp only [List.map_cons, List.map_nil, cellsD]; exact rfl) : p := h
theorem zq25 {p : Prop} (h : p := by simp [exactD, exact_orow, msgD, nodeD, pairD, cfgD]) : p := h
theorem zq26 {p : Prop} (h : p := by first | exact rfl | exact exact_orow _ _ _) : p := h
theorem zq27 {p : Prop} (h : p := by exact el_of rfl) : p := h
theorem zq28 {p : Prop} (h : p := by exact ii_of rfl) : p := h
theorem zq29 {p : Prop} (h : p := by exact sh_of rfl) : p := h
theorem zq30 {p : Prop} (h : p := by exact un_sl rfl) : p := h
end Go.Proofs.Zm
