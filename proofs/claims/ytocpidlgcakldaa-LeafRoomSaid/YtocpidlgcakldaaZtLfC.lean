/- A part of the proof of LeafRoom: walks of the functions that it reaches. No condition. -/
import Derived.Test.YtocpidlgcakldaaZtLfB
import Derived.Test.YtocpidlgcakldaaZmAuto
namespace Go.Proofs.ZtLe
open Go.RowKit Go.Proofs Go.Proofs.Zm
set_option linter.unusedVariables false
set_option linter.unusedSimpArgs false
set_option maxHeartbeats 20000000
set_option maxRecDepth 100000
attribute [local irreducible] ZWp ZOps ZPure ZPure0 ZVal ZOp SoundF

/-! ### awake of layer 21 -/
theorem put21_pf {x : Bs} (h : x.length ≤ 1000 ∧ x ≠ []) : PureF Try.prog 69 [strD x] (.agg (msgD (1, x, [118]))) := by
  refine pure_of Try.func69 rfl Try.results69 (by rw [Try.ntmps69]; simp) (fun w0 st K hK => ?_); rw [Try.ntmps69]
  obtain ⟨hx, hx0⟩ := h
  have hS := Sep.nil st
  (repeat (first | ((with_reducible apply zr_seq)) | ((with_reducible apply zr_region); (try simp only [List.append_eq, List.cons_append, List.nil_append])) | ((with_reducible apply zo_end)) | ((with_reducible apply zs_move); (exact rfl); (exact rfl)) | ((with_reducible apply (zs_salloc (t := 2))); (exact rfl); (exact el_of rfl); (simp [oneD, Value.oneCell']); (assumption); (intro a2 sS hS))))
  (try ((with_reducible apply zs_yes); exact rfl; exact rfl; (first | assumption | exact rfl))); refine zo_val rfl rfl (by decide) (zv_strBytes rfl Try.underlying9 zq39 Try.underlying5 rfl (by omega) ?_)
  skip
  (try ((with_reducible apply zs_yes); exact rfl; exact rfl; (first | assumption | exact rfl))); refine zo_val rfl rfl (by decide) (zv_buildSlice (e := 5) (xs := [.const (.int .u8 118)]) rfl rfl zq36 zq39 rfl (by simp [cellsD, oneD, Value.oneCell']) (by decide) fun t1 ht1 ht10 => ?_)
  have h01 := hS.T0 ht1
  replace hS := hS.setT t1
  (try ((with_reducible apply zs_yes); exact rfl; exact rfl; (first | assumption | exact rfl))); refine zo_val rfl rfl (by decide) (zv_conv_bytes rfl zq39 Try.underlying5 rfl (by simp) (by decide) (by simp) ?_)
  replace hS := hS.setTa h01 false
  refine zo_as 6 (.row (bytesD [118]) 1 0) rfl zq4 ?_
  (repeat (first | ((with_reducible apply (zs_sstore (i := 0))); (exact rfl); (exact rfl); (exact sh_of rfl); (assumption); (exact rfl); (first | exact rfl | (simp [cells_orow])); ((try rw [cells_orow]); (repeat (first | exact one_nil | (apply one_cons; (first | exact rfl | exact one_orow _ _ _))))); (first | exact Nat.le_of_ble_eq_true rfl | omega | (focus (simp [cellsD, msgD, nodeD, pairD, cfgD]; done))); (first | (simp only [cells_orow, cD_int, cD_bool, cD_float, cD_nil, cD_ptr0, cD_str, cD_row, cD_mrow, cD_ptr, cD_ref, cD_fn, cD_agg, List.take_zero, List.take_succ_cons, List.take_nil, List.drop_succ_cons, List.drop_zero, List.drop_nil, List.nil_append, List.cons_append, List.append_nil, Nat.zero_add, Nat.reduceAdd]; exact rfl) | exact rfl); (intro sS hS); (try simp only [List.set_cons_zero, List.set_cons_succ] at hS)) | ((with_reducible apply zo_end)) | ((with_reducible apply zs_build); (exact rfl); (exact el_of rfl); (exact st_of rfl); (exact rfl); (first | (simp only [fillD, cellsD, cells_orow, List.take_zero, List.take_succ_cons, List.take_nil, List.drop_succ_cons, List.drop_zero, List.drop_nil, List.nil_append, List.cons_append, List.append_nil, Nat.zero_add, Nat.reduceAdd, List.length_cons, List.length_nil]; exact rfl) | ((repeat (apply fillD_cons; exact rfl; (first | exact rfl | simp [cells_orow]); (exact Nat.le_of_ble_eq_true rfl); (simp only [cells_orow, cD_int, cD_bool, cD_float, cD_nil, cD_ptr0, cD_str, cD_row, cD_mrow, cD_ptr, cD_ref, cD_fn, cD_agg, List.take_zero, List.take_succ_cons, List.take_nil, List.drop_succ_cons, List.drop_zero, List.drop_nil, List.nil_append, List.cons_append, List.append_nil, Nat.zero_add, Nat.reduceAdd]; exact rfl))); exact rfl) | exact rfl)) | ((with_reducible apply zr_retZ); (exact rfl); (repeat (first | exact resD_nil _ _ _ | ((with_reducible apply resD_tmp); (exact rfl)) | ((with_reducible apply resD_cell_agg); (exact rfl); (exact sh_of rfl); (first | assumption | exact St.setH_self _ _ _ | exact Sep.at_ (i := 0) zq40 rfl | exact Sep.at_ (i := 1) zq40 rfl | exact Sep.at_ (i := 2) zq40 rfl | exact Sep.at_ (i := 3) zq40 rfl | exact Sep.at_ (i := 4) zq40 rfl | exact Sep.at_ (i := 5) zq40 rfl | exact Sep.at_ (i := 6) zq40 rfl); (exact rfl)) | ((with_reducible apply resD_cell); (exact rfl); (exact sh_of rfl); (first | assumption | exact St.setH_self _ _ _ | exact Sep.at_ (i := 0) zq40 rfl | exact Sep.at_ (i := 1) zq40 rfl | exact Sep.at_ (i := 2) zq40 rfl | exact Sep.at_ (i := 3) zq40 rfl | exact Sep.at_ (i := 4) zq40 rfl | exact Sep.at_ (i := 5) zq40 rfl | exact Sep.at_ (i := 6) zq40 rfl); (exact rfl)))); (simp only [resOf]))))
  exact KE.mk _ hS.ext hK
def c21 : CfgV := ⟨2, 8, 2, 3, 6, 3, 1, 9, 1, 4607182418800017408⟩
def p21 : List PairV := [([98], []), ([100], [])]
def m21 : List MsgV := [(1, [97], [118]), (1, [99], [118])]
def q21 : List PairV := [([97], []), ([98], []), ([99], []), ([100], [])]
theorem dle_lf1 : DLe (.agg [.v (.bool true), .row [[.row (bytesD [98]) 1 0], [.row (bytesD [100]) 1 0]] 1 0, .row [[.v (.slice none 0 0)], [.v (.slice none 0 0)]] 1 0, .v (.slice none 0 0), .v (.slice none 0 0)]) (.agg (nodeD (leafN p21))) :=
  DLe.agg (.cons (.refl _) (.cons (.refl _) (.cons (DLe.rows (.cons (.cons .nilB .nil) (.cons (.cons .nilB .nil) .nil))) (.cons .nilI (.cons (DLe.nil 3) .nil)))))
theorem dle_lm2 : DLe (.row [msgD (1, [97], [118]), msgD (1, [99], [118])] 3 0) (.row (msgR m21) 3 0) := .refl _
theorem dle_lp4 : DLe (.row [[.row (bytesD [97]) 1 0, .v (.slice none 0 0)], [.row (bytesD [98]) 1 0, .v (.slice none 0 0)], [.row (bytesD [99]) 1 0, .v (.slice none 0 0)], [.row (bytesD [100]) 1 0, .v (.slice none 0 0)]] 2 0) (.row (pairR q21) 2 0) :=
  DLe.rows (.cons (.cons (.refl _) (.cons .nilB .nil)) (.cons (.cons (.refl _) (.cons .nilB .nil)) (.cons (.cons (.refl _) (.cons .nilB .nil)) (.cons (.cons (.refl _) (.cons .nilB .nil)) .nil))))
theorem dle_lp0 : DLe (.v (.slice none 0 0)) (.row (pairR []) 2 0) := DLe.nil 2
theorem pb21 {l : List PairV} (h : l.all (fun q => decide (q.1.length ≤ 100) && decide (q.2.length ≤ 100)) = true) : ∀ q ∈ l, PB q := fun q hq => by
  have := List.all_eq_true.1 h q hq
  simp only [Bool.and_eq_true, decide_eq_true_eq] at this
  exact ⟨by omega, by omega⟩
theorem mb21 {l : List MsgV} (h : l.all (fun q => decide (q.2.1.length ≤ 100) && decide (q.2.2.length ≤ 100)) = true) : ∀ q ∈ l, MB q := fun q hq => by
  have := List.all_eq_true.1 h q hq
  simp only [Bool.and_eq_true, decide_eq_true_eq] at this
  exact ⟨by omega, by omega⟩
theorem srt21 {l : List Bs} (h : (List.range l.length).all (fun i => (List.range l.length).all fun j => !decide (i < j) || lt (l.getD i []) (l.getD j [])) = true) : Srt l := by
  refine List.pairwise_iff_getElem.2 fun i j hi hj hij => ?_
  have := List.all_eq_true.1 (List.all_eq_true.1 h i (by simpa using hi)) j (by simpa using hj)
  rw [decide_eq_true hij, List.getD_eq_getElem?_getD, List.getD_eq_getElem?_getD, List.getElem?_eq_getElem hi, List.getElem?_eq_getElem hj] at this
  simpa using this
theorem tk21 : (c21.l = ((3 : Nat) : Int) ∧ 1 ≤ 3) ∧ p21.length ≤ 1000000 ∧ m21.length ≤ 1000000 ∧ Srt (keysP p21) ∧ (∀ q ∈ p21, PB q) ∧ ∀ m ∈ m21, MB m := ⟨⟨rfl, by decide⟩, by decide, by decide, srt21 (by decide), pb21 (by decide), mb21 (by decide)⟩
theorem bd21 : ((0 ≤ c21.l ∧ c21.l ≤ 1000000 ∧ 0 ≤ c21.c ∧ c21.c ≤ 1000000) ∧ (c21.l + c21.c + 1) / 2 = ((3 : Nat) : Int) ∧ 1 ≤ 3) ∧ q21.length ≤ 2147483648 ∧ ∀ q ∈ q21, PB q := ⟨⟨by decide, by decide, by decide⟩, by decide, pb21 (by decide)⟩
theorem bn21 : ((0 ≤ c21.l ∧ c21.l ≤ 1000000 ∧ 0 ≤ c21.c ∧ c21.c ≤ 1000000) ∧ (c21.l + c21.c + 1) / 2 = ((3 : Nat) : Int) ∧ 1 ≤ 3) ∧ ([] : List PairV).length ≤ 2147483648 ∧ ∀ q ∈ ([] : List PairV), PB q := ⟨⟨by decide, by decide, by decide⟩, by decide, pb21 (by decide)⟩
theorem awake21_pf (h : True) : PureF Try.prog 33 [] (.v (.bool true)) := by
  refine pure_of Try.func33 rfl Try.results33 (by rw [Try.ntmps33]; simp) (fun w0 st K hK => ?_); rw [Try.ntmps33]
  have hS := Sep.nil st
  (repeat (first | ((with_reducible apply zr_seq)) | ((with_reducible apply zr_region); (try simp only [List.append_eq, List.cons_append, List.nil_append])) | ((with_reducible apply zo_end)) | ((with_reducible apply zs_assign); (exact rfl); (exact rfl)) | ((with_reducible apply zs_build); (exact rfl); (exact el_of rfl); (exact st_of rfl); (exact rfl); (first | (simp only [fillD, cellsD, cells_orow, List.take_zero, List.take_succ_cons, List.take_nil, List.drop_succ_cons, List.drop_zero, List.drop_nil, List.nil_append, List.cons_append, List.append_nil, Nat.zero_add, Nat.reduceAdd, List.length_cons, List.length_nil]; exact rfl) | ((repeat (apply fillD_cons; exact rfl; (first | exact rfl | simp [cells_orow]); (exact Nat.le_of_ble_eq_true rfl); (simp only [cells_orow, cD_int, cD_bool, cD_float, cD_nil, cD_ptr0, cD_str, cD_row, cD_mrow, cD_ptr, cD_ref, cD_fn, cD_agg, List.take_zero, List.take_succ_cons, List.take_nil, List.drop_succ_cons, List.drop_zero, List.drop_nil, List.nil_append, List.cons_append, List.append_nil, Nat.zero_add, Nat.reduceAdd]; exact rfl))); exact rfl) | exact rfl)) | ((with_reducible apply (zs_allocRef (t := 1))); (exact el_of rfl); (simp [oneD, Value.oneCell']); (exact sh_of rfl); (exact rfl); (intro _; exact rfl); (exact rfl); (simp [cellsD, oneD, Value.oneCell', msgD, nodeD, pairD, cfgD]))))
  refine zr_as 1 (.ref (cfgD c21)) rfl zq4 ?_
  have htk := tk21
  have hbd := bd21
  have hbn := bn21
  apply zr_flatUK _ [11, 13] [] [⟨3, 19, 21, _, _⟩, ⟨4, 20, 22, _, _⟩] zq41 (sub_cons (k := 1) rfl (sub_cons (k := 2) rfl (sub_nil _)))
  first | refine zu_cons rfl rfl rfl rfl rfl zq29 (fo_of rfl fun st K hK => ZPure.opK rfl (by decide) (zp_load_ref rfl zq38 rfl rfl) hK) ?_ | refine zu_cons rfl rfl rfl rfl rfl zq29 (fo_of rfl fun st K hK => ZPure.opK rfl (by decide) (zp_load_refAll rfl zq38 rfl rfl) hK) ?_
  refine zu_cons rfl rfl rfl rfl rfl zq29 (fo_lit (xs := bytesD [98]) (k := 1) (by simp [bytesD]) (by decide) fun st K hK => ZVal.op rfl (by decide) (zv_buildSlice (e := 5) (xs := [.const (.int .u8 98)]) rfl rfl zq36 zq39 rfl (by simp [cellsD, oneD, Value.oneCell']) (by decide) fun tq h1 h2 => hK tq h1 h2)) ?_
  refine zu_cons rfl rfl rfl rfl rfl zq29 (fo_conv rfl rfl rfl zq39 Try.underlying5 rfl rfl rfl) ?_
  refine zu_cons rfl rfl rfl rfl rfl zq29 (fo_lit (xs := bytesD [100]) (k := 1) (by simp [bytesD]) (by decide) fun st K hK => ZVal.op rfl (by decide) (zv_buildSlice (e := 5) (xs := [.const (.int .u8 100)]) rfl rfl zq36 zq39 rfl (by simp [cellsD, oneD, Value.oneCell']) (by decide) fun tq h1 h2 => hK tq h1 h2)) ?_
  refine zu_cons rfl rfl rfl rfl rfl zq29 (fo_conv rfl rfl rfl zq39 Try.underlying5 rfl rfl rfl) ?_
  refine zu_cons rfl rfl rfl rfl rfl zq29 (fo_of rfl fun st K hK => ZVal.op rfl (by decide) (zv_litR (xs := [.tmp 12, .tmp 14]) _ rfl rfl rfl zq39 zq36 zq31 zq17 (by decide) hK)) ?_
  refine zu_cons rfl rfl rfl rfl rfl zq29 (fo_of rfl fun st K hK => ZVal.op rfl (by decide) (zv_litR (xs := [.const (.slice none 0 0), .const (.slice none 0 0)]) _ rfl rfl rfl zq39 zq36 zq31 zq17 (by decide) hK)) ?_
  refine zu_cons rfl rfl rfl rfl rfl zq29 (fo_of rfl fun st K hK => ZPure.opK rfl (by decide) (ZPure0.pure (zp_build (xs := [(0, .const (.bool true)), (1, .tmp 15), (2, .tmp 16)]) rfl (el_of rfl) (st_of rfl) rfl zq2)) hK) ?_
  refine zu_cons rfl rfl rfl rfl rfl zq29 (fo_of rfl fun st K hK => ZPure.opK rfl (by decide) (ZPure0.pure (zp_move rfl rfl)) hK) ?_
  refine zu_cons rfl rfl rfl rfl rfl zq29 (fo_of rfl fun st K hK => zop_callQd put21_pf cl_69 rfl rfl (by decide) rfl rfl rfl (by simp only [List.take_succ_cons, List.take_zero, List.length_cons, List.length_nil, Nat.zero_add]; (repeat (first | exact DLes.nil | (apply DLes.cons; first | exact DLe.refl _ | exact DLe.nilB | exact DLe.nilR | exact DLe.nilI | exact dle_lf1 | exact dle_lm2 | exact dle_lp4 | exact dle_lp0)))) zq15 hK) ?_
  refine zu_cons rfl rfl rfl rfl rfl zq29 (fo_of rfl fun st K hK => ZPure.opK rfl (by decide) (ZPure0.pure (zp_move rfl rfl)) hK) ?_
  refine zu_cons rfl rfl rfl rfl rfl zq29 (fo_of rfl fun st K hK => zop_callQd put21_pf cl_69 rfl rfl (by decide) rfl rfl rfl (by simp only [List.take_succ_cons, List.take_zero, List.length_cons, List.length_nil, Nat.zero_add]; (repeat (first | exact DLes.nil | (apply DLes.cons; first | exact DLe.refl _ | exact DLe.nilB | exact DLe.nilR | exact DLe.nilI | exact dle_lf1 | exact dle_lm2 | exact dle_lp4 | exact dle_lp0)))) zq15 hK) ?_
  refine zu_cons rfl rfl rfl rfl rfl zq29 (fo_of rfl fun st K hK => ZVal.op rfl (by decide) (zv_litR (xs := [.tmp 19, .tmp 21]) _ rfl rfl rfl zq39 zq36 zq31 zq17 (by decide) hK)) ?_
  refine zu_cons rfl rfl rfl rfl rfl zq29 (fo_of rfl fun st K hK => zop_callQ take_pf cl_34 rfl rfl (by decide) rfl rfl (by (repeat (first | exact DLes.nil | (apply DLes.cons; first | exact DLe.refl _ | exact DLe.nilB | exact DLe.nilR | exact DLe.nilI | exact dle_lf1 | exact dle_lm2 | exact dle_lp4 | exact dle_lp0)))) zq15 hK) ?_
  refine zu_cons rfl rfl rfl rfl rfl zq29 (fo_of rfl fun st K hK => ZPure.opK rfl (by decide) (ZPure0.pure (zp_move rfl rfl)) hK) ?_
  refine zu_cons rfl rfl rfl rfl rfl zq29 (fo_of rfl fun st K hK => ZPure.opK rfl (by decide) (ZPure0.pure (zp_extract rfl rfl rfl)) hK) ?_
  refine zu_cons rfl rfl rfl rfl rfl zq29 (fo_of rfl fun st K hK => ZPure.opK rfl (by decide) (ZPure0.pure (zp_extract rfl rfl rfl)) hK) ?_
  refine zu_cons rfl rfl rfl rfl rfl zq29 (fo_of rfl fun st K hK => ZPure.opK rfl (by decide) (ZPure0.pure (zp_extract rfl rfl rfl)) hK) ?_
  refine zu_cons rfl rfl rfl rfl rfl zq29 (fo_of rfl fun st K hK => ZPure.opK rfl (by decide) (ZPure0.pure (zp_extract rfl rfl rfl)) hK) ?_
  refine zu_alloc (j := 0) rfl rfl rfl rfl rfl rfl rfl rfl rfl rfl zq36 zq35 ?_
  refine zu_alloc (j := 1) rfl rfl rfl rfl rfl rfl rfl rfl rfl rfl zq36 zq35 ?_
  refine zu_store (j := 0) rfl rfl rfl rfl rfl rfl rfl rfl rfl rfl rfl zq38 (by simp only [cellsD]; exact rfl) (by first | exact rfl | simp [cellsD, msgD, nodeD, pairD, cfgD]) (by repeat (first | exact one_nil | (apply one_cons; exact rfl))) rfl ?_
  refine zu_store (j := 1) rfl rfl rfl rfl rfl rfl rfl rfl rfl rfl rfl zq38 (by simp only [cellsD]; exact rfl) (by first | exact rfl | simp [cellsD, msgD, nodeD, pairD, cfgD]) (by repeat (first | exact one_nil | (apply one_cons; exact rfl))) rfl ?_
  refine zu_cons rfl rfl rfl rfl rfl zq29 (fo_of rfl fun st K hK => ZPure.opK rfl (by decide) (ZPure0.pure (zp_assign rfl rfl)) hK) ?_
  refine zu_cons rfl rfl rfl rfl rfl zq29 (fo_of rfl fun st K hK => ZPure.opK rfl (by decide) (ZPure0.pure (zp_assign rfl rfl)) hK) ?_
  refine zu_nil ⟨by kernel_rfl, by kernel_rfl, by kernel_rfl, by kernel_rfl, fun cur idq hSn => ?_⟩
  simp only [endB, List.length_cons, List.length_nil, Nat.zero_add, Nat.reduceAdd, Nat.blt_eq, Nat.reduceLT, ↓reduceIte] at hSn
  refine zr_subE (sub_cons (k := 1) rfl (sub_cons (k := 3) (d := .ptr (idq 0) 0) rfl (sub_cons (k := 4) (d := .ptr (idq 1) 0) rfl (sub_cons (k := 5) rfl (sub_cons (k := 6) rfl (sub_nil _)))))) ?_
  generalize idq 0 = a3 at hSn ⊢
  generalize idq 1 = a4 at hSn ⊢
  replace hS := hS.trans hSn
  simp only [List.cons_append, List.nil_append] at hS
  have hA : takeA 3 (applyL p21 m21) = leafN [([97], [118]), ([98], [])] := by kernel_rfl
  have hB : takeB 3 (applyL p21 m21) = leafN [([99], [118]), ([100], [])] := by kernel_rfl
  have hP : takeP 3 (applyL p21 m21) = [99] := by kernel_rfl
  have hT : decide (3 < (applyL p21 m21).length) = true := by kernel_rfl
  rw [hA, hB] at hS
  rw [hP, hT]
  refine zr_freezeK (id := a3) [1, 3, 4, 5, 6] (hS.at_ (i := 0) rfl) zq13 rfl ?_
  replace hS := hS.drop (i := 0) rfl
  refine zr_freezeK (id := a4) [1, 3, 4, 5, 6] (hS.at_ (i := 0) rfl) zq13 rfl ?_
  replace hS := hS.drop (i := 0) rfl
  (repeat (first | ((with_reducible apply zr_seq)) | ((with_reducible apply zr_region); (try simp only [List.append_eq, List.cons_append, List.nil_append])) | ((with_reducible apply zs_load_refAll); (exact rfl); (exact rfl); (exact sh_of rfl); (exact rfl))))
  (try ((with_reducible apply zs_yes); exact rfl; exact rfl; (first | assumption | exact rfl))); refine zo_val rfl rfl (by decide) (zv_buildSlice (e := 5) (xs := [.const (.int .u8 97)]) rfl rfl zq36 zq39 rfl (by simp [cellsD, oneD, Value.oneCell']) (by decide) fun t1 ht1 ht10 => ?_)
  have h01 := hS.T0 ht1
  replace hS := hS.setT t1
  (try ((with_reducible apply zs_yes); exact rfl; exact rfl; (first | assumption | exact rfl))); refine zo_val rfl rfl (by decide) (zv_conv_bytes rfl zq39 Try.underlying5 rfl (by simp) (by decide) (by simp) ?_)
  replace hS := hS.setTa h01 false
  refine zo_as 30 (.row (bytesD [97]) 1 0) rfl zq4 ?_
  (repeat (first | ((with_reducible apply zs_build); (exact rfl); (exact el_of rfl); (exact st_of rfl); (exact rfl); (first | (simp only [fillD, cellsD, cells_orow, List.take_zero, List.take_succ_cons, List.take_nil, List.drop_succ_cons, List.drop_zero, List.drop_nil, List.nil_append, List.cons_append, List.append_nil, Nat.zero_add, Nat.reduceAdd, List.length_cons, List.length_nil]; exact rfl) | ((repeat (apply fillD_cons; exact rfl; (first | exact rfl | simp [cells_orow]); (exact Nat.le_of_ble_eq_true rfl); (simp only [cells_orow, cD_int, cD_bool, cD_float, cD_nil, cD_ptr0, cD_str, cD_row, cD_mrow, cD_ptr, cD_ref, cD_fn, cD_agg, List.take_zero, List.take_succ_cons, List.take_nil, List.drop_succ_cons, List.drop_zero, List.drop_nil, List.nil_append, List.cons_append, List.append_nil, Nat.zero_add, Nat.reduceAdd]; exact rfl))); exact rfl) | exact rfl))))
  (try ((with_reducible apply zs_yes); exact rfl; exact rfl; (first | assumption | exact rfl))); refine zo_val rfl rfl (by decide) (zv_buildSlice (e := 5) (xs := [.const (.int .u8 98)]) rfl rfl zq36 zq39 rfl (by simp [cellsD, oneD, Value.oneCell']) (by decide) fun t1 ht1 ht10 => ?_)
  have h01 := hS.T0 ht1
  replace hS := hS.setT t1
  (try ((with_reducible apply zs_yes); exact rfl; exact rfl; (first | assumption | exact rfl))); refine zo_val rfl rfl (by decide) (zv_conv_bytes rfl zq39 Try.underlying5 rfl (by simp) (by decide) (by simp) ?_)
  replace hS := hS.setTa h01 false
  refine zo_as 33 (.row (bytesD [98]) 1 0) rfl zq4 ?_
  (repeat (first | ((with_reducible apply zs_build); (exact rfl); (exact el_of rfl); (exact st_of rfl); (exact rfl); (first | (simp only [fillD, cellsD, cells_orow, List.take_zero, List.take_succ_cons, List.take_nil, List.drop_succ_cons, List.drop_zero, List.drop_nil, List.nil_append, List.cons_append, List.append_nil, Nat.zero_add, Nat.reduceAdd, List.length_cons, List.length_nil]; exact rfl) | ((repeat (apply fillD_cons; exact rfl; (first | exact rfl | simp [cells_orow]); (exact Nat.le_of_ble_eq_true rfl); (simp only [cells_orow, cD_int, cD_bool, cD_float, cD_nil, cD_ptr0, cD_str, cD_row, cD_mrow, cD_ptr, cD_ref, cD_fn, cD_agg, List.take_zero, List.take_succ_cons, List.take_nil, List.drop_succ_cons, List.drop_zero, List.drop_nil, List.nil_append, List.cons_append, List.append_nil, Nat.zero_add, Nat.reduceAdd]; exact rfl))); exact rfl) | exact rfl))))
  (try ((with_reducible apply zs_yes); exact rfl; exact rfl; (first | assumption | exact rfl))); refine zo_val rfl rfl (by decide) (zv_buildSlice (e := 5) (xs := [.const (.int .u8 99)]) rfl rfl zq36 zq39 rfl (by simp [cellsD, oneD, Value.oneCell']) (by decide) fun t1 ht1 ht10 => ?_)
  have h01 := hS.T0 ht1
  replace hS := hS.setT t1
  (try ((with_reducible apply zs_yes); exact rfl; exact rfl; (first | assumption | exact rfl))); refine zo_val rfl rfl (by decide) (zv_conv_bytes rfl zq39 Try.underlying5 rfl (by simp) (by decide) (by simp) ?_)
  replace hS := hS.setTa h01 false
  refine zo_as 36 (.row (bytesD [99]) 1 0) rfl zq4 ?_
  (repeat (first | ((with_reducible apply zs_build); (exact rfl); (exact el_of rfl); (exact st_of rfl); (exact rfl); (first | (simp only [fillD, cellsD, cells_orow, List.take_zero, List.take_succ_cons, List.take_nil, List.drop_succ_cons, List.drop_zero, List.drop_nil, List.nil_append, List.cons_append, List.append_nil, Nat.zero_add, Nat.reduceAdd, List.length_cons, List.length_nil]; exact rfl) | ((repeat (apply fillD_cons; exact rfl; (first | exact rfl | simp [cells_orow]); (exact Nat.le_of_ble_eq_true rfl); (simp only [cells_orow, cD_int, cD_bool, cD_float, cD_nil, cD_ptr0, cD_str, cD_row, cD_mrow, cD_ptr, cD_ref, cD_fn, cD_agg, List.take_zero, List.take_succ_cons, List.take_nil, List.drop_succ_cons, List.drop_zero, List.drop_nil, List.nil_append, List.cons_append, List.append_nil, Nat.zero_add, Nat.reduceAdd]; exact rfl))); exact rfl) | exact rfl))))
  (try ((with_reducible apply zs_yes); exact rfl; exact rfl; (first | assumption | exact rfl))); refine zo_val rfl rfl (by decide) (zv_buildSlice (e := 5) (xs := [.const (.int .u8 100)]) rfl rfl zq36 zq39 rfl (by simp [cellsD, oneD, Value.oneCell']) (by decide) fun t1 ht1 ht10 => ?_)
  have h01 := hS.T0 ht1
  replace hS := hS.setT t1
  (try ((with_reducible apply zs_yes); exact rfl; exact rfl; (first | assumption | exact rfl))); refine zo_val rfl rfl (by decide) (zv_conv_bytes rfl zq39 Try.underlying5 rfl (by simp) (by decide) (by simp) ?_)
  replace hS := hS.setTa h01 false
  refine zo_as 39 (.row (bytesD [100]) 1 0) rfl zq4 ?_
  (repeat (first | ((with_reducible apply zr_seq)) | ((with_reducible apply zr_region); (try simp only [List.append_eq, List.cons_append, List.nil_append])) | ((with_reducible apply zo_end)) | ((with_reducible apply zs_yes); (exact rfl); (exact rfl); (first | assumption | exact rfl)) | ((with_reducible apply zs_move); (exact rfl); (exact rfl)) | ((with_reducible apply zs_assign); (exact rfl); (exact rfl)) | ((with_reducible apply zs_eql); (exact rfl); (exact rfl); (exact rfl)) | ((with_reducible apply zs_pick_t); (exact rfl); (exact rfl); (first | assumption | exact rfl); (exact rfl)) | ((with_reducible apply zs_len); (exact rfl); (exact rfl); (exact un_sl rfl)) | ((with_reducible apply zs_field_ref); (exact rfl); (exact rfl); (exact fld_of rfl)) | ((with_reducible apply zs_load_ref); (exact rfl); (exact rfl); (exact sh_of rfl); (exact rfl)) | ((with_reducible apply zs_load_refAll); (exact rfl); (exact rfl); (exact sh_of rfl); (exact rfl)) | ((with_reducible apply zs_build); (exact rfl); (exact el_of rfl); (exact st_of rfl); (exact rfl); (first | (simp only [fillD, cellsD, cells_orow, List.take_zero, List.take_succ_cons, List.take_nil, List.drop_succ_cons, List.drop_zero, List.drop_nil, List.nil_append, List.cons_append, List.append_nil, Nat.zero_add, Nat.reduceAdd, List.length_cons, List.length_nil]; exact rfl) | ((repeat (apply fillD_cons; exact rfl; (first | exact rfl | simp [cells_orow]); (exact Nat.le_of_ble_eq_true rfl); (simp only [cells_orow, cD_int, cD_bool, cD_float, cD_nil, cD_ptr0, cD_str, cD_row, cD_mrow, cD_ptr, cD_ref, cD_fn, cD_agg, List.take_zero, List.take_succ_cons, List.take_nil, List.drop_succ_cons, List.drop_zero, List.drop_nil, List.nil_append, List.cons_append, List.append_nil, Nat.zero_add, Nat.reduceAdd]; exact rfl))); exact rfl) | exact rfl)) | ((with_reducible apply zs_streq); (exact rfl); (exact rfl); (exact rfl)) | ((with_reducible apply zs_toStr); (exact rfl); (exact rfl); (exact un_sl rfl); (exact Try.underlying5); (exact Try.underlying9)) | ((with_reducible apply zs_idx); (exact rfl); (exact rfl); (exact rfl); (exact un_sl rfl); (exact ii_of rfl); (first | omega | (simp only [List.length_map, List.length_take, List.length_drop, List.length_append, List.length_cons, List.length_nil, List.length_replicate, rowR_length, intR_length, msgR_length, pairR_length, lnodesR_length]; omega) | decide); (first | omega | (simp only [List.length_map, List.length_take, List.length_drop, List.length_append, List.length_cons, List.length_nil, List.length_replicate, rowR_length, intR_length, msgR_length, pairR_length, lnodesR_length]; omega) | decide); (first | (with_reducible exact Int.toNat_natCast _) | (simp only [Int.reduceToNat]; exact rfl) | exact rfl)) | ((with_reducible apply (zs_callQ lbuild_pf cl_30)); (exact rfl); (exact rfl); ((repeat (first | exact DLes.nil | (apply DLes.cons; first | exact DLe.refl _ | exact DLe.nilB | exact DLe.nilR | exact DLe.nilI | exact dle_lf1 | exact dle_lm2 | exact dle_lp4 | exact dle_lp0)))); (first | exact trivial | assumption | ((repeat' (with_reducible refine And.intro ?_ ?_)) <;> first | assumption | omega | exact trivial | (simp; done) | (simp; omega)))) | ((with_reducible apply (zs_lit (t := 41) [.tmp 31, .tmp 34, .tmp 37, .tmp 40])); (exact rfl); (exact rfl); (exact rfl); (exact rfl); (exact un_sl rfl); (exact el_of rfl); (simp only [List.map_cons, List.map_nil, cellsD]; exact rfl); ((repeat (first | exact lit_nil | (apply lit_cons; exact rfl; (repeat (first | exact one_nil | (apply one_cons; (first | exact rfl | exact one_orow _ _ _)))))))); (decide))))
  have hpp : ([([97], [118]), ([98], [])] : List PairV).length ≤ 2147483648 ∧ ∀ q ∈ ([([97], [118]), ([98], [])] : List PairV), PB q := ⟨by decide, pb21 (by decide)⟩
  refine zo_as 89 (.agg (nodeD (leafN [([97], [118]), ([98], [])]))) rfl zq4 ?_
  (repeat (first | ((with_reducible apply zo_end)) | ((with_reducible apply zs_yes); (exact rfl); (exact rfl); (first | assumption | exact rfl)) | ((with_reducible apply zs_assign); (exact rfl); (exact rfl)) | ((with_reducible apply zs_eql); (exact rfl); (exact rfl); (exact rfl)) | ((with_reducible apply zs_pick_t); (exact rfl); (exact rfl); (first | assumption | exact rfl); (exact rfl)) | ((with_reducible apply zs_len); (exact rfl); (exact rfl); (exact un_sl rfl)) | ((with_reducible apply (zs_callQ lpairs_pf cl_31)); (exact rfl); (exact rfl); ((repeat (first | exact DLes.nil | (apply DLes.cons; first | exact DLe.refl _ | exact DLe.nilB | exact DLe.nilR | exact DLe.nilI | exact dle_lf1 | exact dle_lm2 | exact dle_lp4 | exact dle_lp0)))); (first | exact trivial | assumption | ((repeat' (with_reducible refine And.intro ?_ ?_)) <;> first | assumption | omega | exact trivial | (simp; done) | (simp; omega)))) | ((with_reducible apply zr_retZ); (exact rfl); (repeat (first | exact resD_nil _ _ _ | ((with_reducible apply resD_tmp); (exact rfl)) | ((with_reducible apply resD_cell_agg); (exact rfl); (exact sh_of rfl); (first | assumption | exact St.setH_self _ _ _ | exact Sep.at_ (i := 0) zq40 rfl | exact Sep.at_ (i := 1) zq40 rfl | exact Sep.at_ (i := 2) zq40 rfl | exact Sep.at_ (i := 3) zq40 rfl | exact Sep.at_ (i := 4) zq40 rfl | exact Sep.at_ (i := 5) zq40 rfl | exact Sep.at_ (i := 6) zq40 rfl); (exact rfl)) | ((with_reducible apply resD_cell); (exact rfl); (exact sh_of rfl); (first | assumption | exact St.setH_self _ _ _ | exact Sep.at_ (i := 0) zq40 rfl | exact Sep.at_ (i := 1) zq40 rfl | exact Sep.at_ (i := 2) zq40 rfl | exact Sep.at_ (i := 3) zq40 rfl | exact Sep.at_ (i := 4) zq40 rfl | exact Sep.at_ (i := 5) zq40 rfl | exact Sep.at_ (i := 6) zq40 rfl); (exact rfl)))); (simp only [resOf]))))
  exact KE.mk _ hS.ext hK
end Go.Proofs.ZtLe
