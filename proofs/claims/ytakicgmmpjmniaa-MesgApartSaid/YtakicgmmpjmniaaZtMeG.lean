/- A part of the proof of MesgApart: walks of the functions that it reaches. No condition. -/
import Derived.Test.YtakicgmmpjmniaaZtMeF
import Derived.Test.YtakicgmmpjmniaaZmP2
import Derived.Test.YtakicgmmpjmniaaZmAuto
namespace Go.Proofs.ZtLe
open Go.RowKit Go.Proofs Go.Proofs.Zm
set_option linter.unusedVariables false
set_option linter.unusedSimpArgs false
set_option maxHeartbeats 20000000
set_option maxRecDepth 100000
attribute [local irreducible] ZWp ZOps ZPure ZPure0 ZVal ZOp SoundF

/-! ### awake of layer 19 -/
theorem dle_m3 {x y : Bs} : DLe (.row [[.v (.int .i64 3), .v (.slice none 0 0), .row (bytesD x) 1 0], [.v (.int .i64 3), .v (.slice none 0 0), .row (bytesD y) 1 0]] 3 0) (.row (msgR [(3, [], x), (3, [], y)]) 3 0) :=
  DLe.rows (.cons (.cons (.refl _) (.cons .nilB (.cons (.refl _) .nil))) (.cons (.cons (.refl _) (.cons .nilB (.cons (.refl _) .nil))) .nil))
theorem dle_m2 : DLe (.row [[.v (.int .i64 2), .v (.slice none 0 0), .v (.slice none 0 0)]] 3 0) (.row (msgR [(2, [], [])]) 3 0) :=
  DLe.rows (.cons (.cons (.refl _) (.cons .nilB (.cons .nilB .nil))) .nil)
theorem dle_m0 : DLe (.row [[.v (.int .i64 0), .v (.slice none 0 0), .v (.slice none 0 0)]] 3 0) (.row (msgR [(0, [], [])]) 3 0) :=
  DLe.rows (.cons (.cons (.refl _) (.cons .nilB (.cons .nilB .nil))) .nil)
theorem dle_p1 {x : Bs} : DLe (.row [[.row (bytesD x) 1 0, .v (.slice none 0 0)]] 2 0) (.row (pairR [(x, [])]) 2 0) :=
  DLe.rows (.cons (.cons (.refl _) (.cons .nilB .nil)) .nil)
theorem dle_m12 {x y z : Bs} : DLe (.row [[.v (.int .i64 1), .row (bytesD x) 1 0, .row (bytesD y) 1 0], [.v (.int .i64 2), .row (bytesD z) 1 0, .v (.slice none 0 0)]] 3 0) (.row (msgR [(1, x, y), (2, z, [])]) 3 0) :=
  DLe.rows (.cons (.cons (.refl _) (.cons (.refl _) (.cons (.refl _) .nil))) (.cons (.cons (.refl _) (.cons (.refl _) (.cons .nilB .nil))) .nil))
theorem aw_apply (x : Bs) : applyL [([98], [])] [(1, [97], x), (2, [98], [])] = [([97], x)] := rfl
theorem awake19_pf (h : True) : PureF Try.prog 14 [] (.v (.bool true)) := by
  refine pure_of Try.func14 rfl Try.results14 (by rw [Try.ntmps14]; simp) (fun w0 st K hK => ?_); rw [Try.ntmps14]
  have hS := Sep.nil st
  obtain ⟨w, hw⟩ : ∃ w, w = bytesN 4607182418800017408 := ⟨_, rfl⟩
  have hwl : w.length = 8 := by rw [hw]; exact bytesN_length _
  have hmb : ∀ k a b, a.length ≤ 2147483648 → b.length ≤ 2147483648 → MB ((k : Int), (a : Bs), (b : Bs)) := fun k a b h1 h2 => ⟨h1, h2⟩
  have hq1 : ∀ m ∈ [((3 : Int), ([] : Bs), w), (3, [], w)], MB m := fun m hm => by
    simp only [List.mem_cons, List.not_mem_nil, or_false] at hm
    rcases hm with rfl | rfl <;> exact hmb _ _ _ (by simp) (by omega)
  have hq2 : ∀ m ∈ [((2 : Int), ([] : Bs), ([] : Bs))], MB m := fun m hm => by
    simp only [List.mem_cons, List.not_mem_nil, or_false] at hm
    subst hm; exact hmb _ _ _ (by simp) (by simp)
  have hq3 : ∀ m ∈ [((0 : Int), ([] : Bs), ([] : Bs))], MB m := fun m hm => by
    simp only [List.mem_cons, List.not_mem_nil, or_false] at hm
    subst hm; exact hmb _ _ _ (by simp) (by simp)
  have hq4 : ∀ m ∈ [((1 : Int), ([97] : Bs), w), (2, [98], [])], MB m := fun m hm => by
    simp only [List.mem_cons, List.not_mem_nil, or_false] at hm
    rcases hm with rfl | rfl <;> exact hmb _ _ _ (by simp) (by first | omega | simp)
  have hq5 : ∀ q ∈ [(([98] : Bs), ([] : Bs))], PB q := fun m hm => by
    simp only [List.mem_cons, List.not_mem_nil, or_false] at hm
    subst hm; exact ⟨by simp, by simp⟩
  have hq6 : Srt (keysP [(([98] : Bs), ([] : Bs))]) := List.pairwise_singleton _ _
  (repeat (first | ((with_reducible apply zr_seq)) | ((with_reducible apply zr_region); (try simp only [List.append_eq, List.cons_append, List.nil_append])) | ((with_reducible apply zo_end)) | ((with_reducible apply zs_move); (exact rfl); (exact rfl)) | ((with_reducible apply zs_assign); (exact rfl); (exact rfl)) | ((with_reducible apply zs_build); (exact rfl); (exact el_of rfl); (exact st_of rfl); (exact rfl); (first | (simp only [fillD, cellsD, cells_orow, List.take_zero, List.take_succ_cons, List.take_nil, List.drop_succ_cons, List.drop_zero, List.drop_nil, List.nil_append, List.cons_append, List.append_nil, Nat.zero_add, Nat.reduceAdd, List.length_cons, List.length_nil]; exact rfl) | ((repeat (apply fillD_cons; exact rfl; (first | exact rfl | simp [cells_orow]); (exact Nat.le_of_ble_eq_true rfl); (simp only [cells_orow, cD_int, cD_bool, cD_float, cD_nil, cD_ptr0, cD_str, cD_row, cD_mrow, cD_ptr, cD_ref, cD_fn, cD_agg, List.take_zero, List.take_succ_cons, List.take_nil, List.drop_succ_cons, List.drop_zero, List.drop_nil, List.nil_append, List.cons_append, List.append_nil, Nat.zero_add, Nat.reduceAdd]; exact rfl))); exact rfl) | exact rfl)) | ((with_reducible apply (zs_callQ bytesr_pf cl_27)); (exact rfl); (exact rfl); ((repeat (first | exact DLes.nil | (apply DLes.cons; first | exact DLe.refl _ | exact DLe.nilB | exact DLe.nilR | exact DLe.nilI | exact dle_m3 | exact dle_m2 | exact dle_m0 | exact dle_p1 | exact dle_m12)))); (first | exact trivial | assumption | ((repeat' (with_reducible refine And.intro ?_ ?_)) <;> first | assumption | omega | exact trivial | (simp; done) | (simp; omega)))) | ((with_reducible apply (zs_lit (t := 13) [.tmp 10, .tmp 12])); (exact rfl); (exact rfl); (exact rfl); (exact rfl); (exact un_sl rfl); (exact el_of rfl); (simp only [List.map_cons, List.map_nil, cellsD]; exact rfl); ((repeat (first | exact lit_nil | (apply lit_cons; exact rfl; (repeat (first | exact one_nil | (apply one_cons; (first | exact rfl | exact one_orow _ _ _)))))))); (decide))))
  rw [← hw]
  (repeat (first | ((with_reducible apply zr_seq)) | ((with_reducible apply zr_region); (try simp only [List.append_eq, List.cons_append, List.nil_append])) | ((with_reducible apply zo_end)) | ((with_reducible apply zs_move); (exact rfl); (exact rfl)) | ((with_reducible apply zs_assign); (exact rfl); (exact rfl)) | ((with_reducible apply zs_extract); (exact rfl); (exact rfl); (exact rfl)) | ((with_reducible apply zs_build); (exact rfl); (exact el_of rfl); (exact st_of rfl); (exact rfl); (first | (simp only [fillD, cellsD, cells_orow, List.take_zero, List.take_succ_cons, List.take_nil, List.drop_succ_cons, List.drop_zero, List.drop_nil, List.nil_append, List.cons_append, List.append_nil, Nat.zero_add, Nat.reduceAdd, List.length_cons, List.length_nil]; exact rfl) | ((repeat (apply fillD_cons; exact rfl; (first | exact rfl | simp [cells_orow]); (exact Nat.le_of_ble_eq_true rfl); (simp only [cells_orow, cD_int, cD_bool, cD_float, cD_nil, cD_ptr0, cD_str, cD_row, cD_mrow, cD_ptr, cD_ref, cD_fn, cD_agg, List.take_zero, List.take_succ_cons, List.take_nil, List.drop_succ_cons, List.drop_zero, List.drop_nil, List.nil_append, List.cons_append, List.append_nil, Nat.zero_add, Nat.reduceAdd]; exact rfl))); exact rfl) | exact rfl)) | ((with_reducible apply (zs_callQ fold_pf cl_17)); (exact rfl); (exact rfl); ((repeat (first | exact DLes.nil | (apply DLes.cons; first | exact DLe.refl _ | exact DLe.nilB | exact DLe.nilR | exact DLe.nilI | exact dle_m3 | exact dle_m2 | exact dle_m0 | exact dle_p1 | exact dle_m12)))); (first | exact trivial | assumption | ((repeat' (with_reducible refine And.intro ?_ ?_)) <;> first | assumption | omega | exact trivial | (simp; done) | (simp; omega)))) | ((with_reducible apply (zs_lit (t := 22) [.tmp 21])); (exact rfl); (exact rfl); (exact rfl); (exact rfl); (exact un_sl rfl); (exact el_of rfl); (simp only [List.map_cons, List.map_nil, cellsD]; exact rfl); ((repeat (first | exact lit_nil | (apply lit_cons; exact rfl; (repeat (first | exact one_nil | (apply one_cons; (first | exact rfl | exact one_orow _ _ _)))))))); (decide))))
  obtain ⟨V, hV⟩ : ∃ V, V = foldM [] false [((3 : Int), ([] : Bs), w), (3, [], w)] := ⟨_, rfl⟩
  have hV1 : V.1.length ≤ 2147483648 := by rw [hV]; exact foldM_len (by simp) (by decide) fun q hq => (hq1 q hq).2
  have hV2 : V.2 = true := by rw [hV]; rfl
  have hV3 : (V.1 == bytesN 4611686018427387904) = true := by rw [hV, hw]; kernel_rfl
  rw [← hV]
  (repeat (first | ((with_reducible apply zr_seq)) | ((with_reducible apply zr_region); (try simp only [List.append_eq, List.cons_append, List.nil_append])) | ((with_reducible apply zo_end)) | ((with_reducible apply zs_move); (exact rfl); (exact rfl)) | ((with_reducible apply zs_assign); (exact rfl); (exact rfl)) | ((with_reducible apply zs_extract); (exact rfl); (exact rfl); (exact rfl)) | ((with_reducible apply (zs_callQ fold_pf cl_17)); (exact rfl); (exact rfl); ((repeat (first | exact DLes.nil | (apply DLes.cons; first | exact DLe.refl _ | exact DLe.nilB | exact DLe.nilR | exact DLe.nilI | exact dle_m3 | exact dle_m2 | exact dle_m0 | exact dle_p1 | exact dle_m12)))); (first | exact trivial | assumption | ((repeat' (with_reducible refine And.intro ?_ ?_)) <;> first | assumption | omega | exact trivial | (simp; done) | (simp; omega))))))
  rw [show (foldM V.1 true [((2 : Int), ([] : Bs), ([] : Bs))]).2 = false from rfl]
  (try ((with_reducible apply zs_yes); exact rfl; exact rfl; (first | assumption | exact rfl))); refine zo_val rfl rfl (by decide) (zv_buildSlice (e := 5) (xs := [.const (.int .u8 98)]) rfl rfl zq34 zq37 rfl (by simp [cellsD, oneD, Value.oneCell']) (by decide) fun tq htq htq0 => ?_); (try ((with_reducible apply zs_yes); exact rfl; exact rfl; (first | assumption | exact rfl))); refine zo_val rfl rfl (by decide) (zv_conv_bytes rfl zq37 Try.underlying5 rfl (by simp) (by decide) (by simp) ?_); rw [St.setT_back htq]
  refine zo_as 27 (.row (bytesD [98]) 1 0) rfl zq3 ?_
  (repeat (first | ((with_reducible apply zs_build); (exact rfl); (exact el_of rfl); (exact st_of rfl); (exact rfl); (first | (simp only [fillD, cellsD, cells_orow, List.take_zero, List.take_succ_cons, List.take_nil, List.drop_succ_cons, List.drop_zero, List.drop_nil, List.nil_append, List.cons_append, List.append_nil, Nat.zero_add, Nat.reduceAdd, List.length_cons, List.length_nil]; exact rfl) | ((repeat (apply fillD_cons; exact rfl; (first | exact rfl | simp [cells_orow]); (exact Nat.le_of_ble_eq_true rfl); (simp only [cells_orow, cD_int, cD_bool, cD_float, cD_nil, cD_ptr0, cD_str, cD_row, cD_mrow, cD_ptr, cD_ref, cD_fn, cD_agg, List.take_zero, List.take_succ_cons, List.take_nil, List.drop_succ_cons, List.drop_zero, List.drop_nil, List.nil_append, List.cons_append, List.append_nil, Nat.zero_add, Nat.reduceAdd]; exact rfl))); exact rfl) | exact rfl)) | ((with_reducible apply (zs_lit (t := 29) [.tmp 28])); (exact rfl); (exact rfl); (exact rfl); (exact rfl); (exact un_sl rfl); (exact el_of rfl); (simp only [List.map_cons, List.map_nil, cellsD]; exact rfl); ((repeat (first | exact lit_nil | (apply lit_cons; exact rfl; (repeat (first | exact one_nil | (apply one_cons; (first | exact rfl | exact one_orow _ _ _)))))))); (decide))))
  (try ((with_reducible apply zs_yes); exact rfl; exact rfl; (first | assumption | exact rfl))); refine zo_val rfl rfl (by decide) (zv_buildSlice (e := 5) (xs := [.const (.int .u8 97)]) rfl rfl zq34 zq37 rfl (by simp [cellsD, oneD, Value.oneCell']) (by decide) fun tq htq htq0 => ?_); (try ((with_reducible apply zs_yes); exact rfl; exact rfl; (first | assumption | exact rfl))); refine zo_val rfl rfl (by decide) (zv_conv_bytes rfl zq37 Try.underlying5 rfl (by simp) (by decide) (by simp) ?_); rw [St.setT_back htq]
  refine zo_as 31 (.row (bytesD [97]) 1 0) rfl zq3 ?_
  (repeat (first | ((with_reducible apply zs_move); (exact rfl); (exact rfl)) | ((with_reducible apply zs_build); (exact rfl); (exact el_of rfl); (exact st_of rfl); (exact rfl); (first | (simp only [fillD, cellsD, cells_orow, List.take_zero, List.take_succ_cons, List.take_nil, List.drop_succ_cons, List.drop_zero, List.drop_nil, List.nil_append, List.cons_append, List.append_nil, Nat.zero_add, Nat.reduceAdd, List.length_cons, List.length_nil]; exact rfl) | ((repeat (apply fillD_cons; exact rfl; (first | exact rfl | simp [cells_orow]); (exact Nat.le_of_ble_eq_true rfl); (simp only [cells_orow, cD_int, cD_bool, cD_float, cD_nil, cD_ptr0, cD_str, cD_row, cD_mrow, cD_ptr, cD_ref, cD_fn, cD_agg, List.take_zero, List.take_succ_cons, List.take_nil, List.drop_succ_cons, List.drop_zero, List.drop_nil, List.nil_append, List.cons_append, List.append_nil, Nat.zero_add, Nat.reduceAdd]; exact rfl))); exact rfl) | exact rfl))))
  (try ((with_reducible apply zs_yes); exact rfl; exact rfl; (first | assumption | exact rfl))); refine zo_val rfl rfl (by decide) (zv_buildSlice (e := 5) (xs := [.const (.int .u8 98)]) rfl rfl zq34 zq37 rfl (by simp [cellsD, oneD, Value.oneCell']) (by decide) fun tq htq htq0 => ?_); (try ((with_reducible apply zs_yes); exact rfl; exact rfl; (first | assumption | exact rfl))); refine zo_val rfl rfl (by decide) (zv_conv_bytes rfl zq37 Try.underlying5 rfl (by simp) (by decide) (by simp) ?_); rw [St.setT_back htq]
  refine zo_as 35 (.row (bytesD [98]) 1 0) rfl zq3 ?_
  (repeat (first | ((with_reducible apply zr_seq)) | ((with_reducible apply zo_end)) | ((with_reducible apply zs_assign); (exact rfl); (exact rfl)) | ((with_reducible apply zs_build); (exact rfl); (exact el_of rfl); (exact st_of rfl); (exact rfl); (first | (simp only [fillD, cellsD, cells_orow, List.take_zero, List.take_succ_cons, List.take_nil, List.drop_succ_cons, List.drop_zero, List.drop_nil, List.nil_append, List.cons_append, List.append_nil, Nat.zero_add, Nat.reduceAdd, List.length_cons, List.length_nil]; exact rfl) | ((repeat (apply fillD_cons; exact rfl; (first | exact rfl | simp [cells_orow]); (exact Nat.le_of_ble_eq_true rfl); (simp only [cells_orow, cD_int, cD_bool, cD_float, cD_nil, cD_ptr0, cD_str, cD_row, cD_mrow, cD_ptr, cD_ref, cD_fn, cD_agg, List.take_zero, List.take_succ_cons, List.take_nil, List.drop_succ_cons, List.drop_zero, List.drop_nil, List.nil_append, List.cons_append, List.append_nil, Nat.zero_add, Nat.reduceAdd]; exact rfl))); exact rfl) | exact rfl)) | ((with_reducible apply (zs_callQ apply_pf cl_12)); (exact rfl); (exact rfl); ((repeat (first | exact DLes.nil | (apply DLes.cons; first | exact DLe.refl _ | exact DLe.nilB | exact DLe.nilR | exact DLe.nilI | exact dle_m3 | exact dle_m2 | exact dle_m0 | exact dle_p1 | exact dle_m12)))); (first | exact trivial | assumption | ((repeat' (with_reducible refine And.intro ?_ ?_)) <;> first | assumption | omega | exact trivial | (simp; done) | (simp; omega)))) | ((with_reducible apply (zs_lit (t := 37) [.tmp 33, .tmp 36])); (exact rfl); (exact rfl); (exact rfl); (exact rfl); (exact un_sl rfl); (exact el_of rfl); (simp only [List.map_cons, List.map_nil, cellsD]; exact rfl); ((repeat (first | exact lit_nil | (apply lit_cons; exact rfl; (repeat (first | exact one_nil | (apply one_cons; (first | exact rfl | exact one_orow _ _ _)))))))); (decide))))
  rw [aw_apply]
  skip
  refine zc_begin (m := 40) ([]) [] (by kernel_rfl) rfl ?_
  refine zc_take0 (i := 0) rfl (by kernel_rfl) (by kernel_rfl) (by kernel_rfl) (by kernel_rfl) zq27 rfl rfl (ZPure0.pure (zp_move rfl rfl)) ?_
  refine zc_take0 (i := 1) rfl (by kernel_rfl) (by kernel_rfl) (by kernel_rfl) (by kernel_rfl) zq27 rfl rfl (ZPure0.pure (zp_move rfl rfl)) ?_
  first | (refine zc_take0 (i := 2) rfl (by kernel_rfl) (by kernel_rfl) (by kernel_rfl) (by kernel_rfl) zq27 rfl rfl (ZPure0.pure (zp_move rfl rfl)) ?_) | (refine zc_notU (i := 2) rfl (by kernel_rfl) (by kernel_rfl) (by kernel_rfl) (by kernel_rfl) zq13 rfl ?_)
  first | (refine zc_take0 (i := 3) rfl (by kernel_rfl) (by kernel_rfl) (by kernel_rfl) (by kernel_rfl) zq27 rfl rfl (zp_toStr rfl zq37 Try.underlying5 Try.underlying9 rfl) ?_) | (refine zc_notU (i := 3) rfl (by kernel_rfl) (by kernel_rfl) (by kernel_rfl) (by kernel_rfl) zq13 rfl ?_)
  skip
  refine zc_one (i := 4) (fun _ => by first | assumption | (repeat (first | exact BOwn.nil _ | refine BOwn.cons zq6 ?_))) (by kernel_rfl) rfl zq27 (zop_callQ bytesr_pf cl_27 rfl rfl (by decide) rfl rfl zq10 ?_ ?_)
  · decide
  first | (refine zc_take0 (i := 5) rfl (by kernel_rfl) (by kernel_rfl) (by kernel_rfl) (by kernel_rfl) zq27 rfl rfl (zp_toStr rfl zq37 Try.underlying5 Try.underlying9 rfl) ?_) | (refine zc_notU (i := 5) rfl (by kernel_rfl) (by kernel_rfl) (by kernel_rfl) (by kernel_rfl) zq13 rfl ?_)
  first | (refine zc_take0 (i := 6) rfl (by kernel_rfl) (by kernel_rfl) (by kernel_rfl) (by kernel_rfl) zq27 rfl rfl (ZPure0.pure (zp_streq rfl rfl rfl (.inl ⟨rfl, rfl⟩))) ?_) | (refine zc_notU (i := 6) rfl (by kernel_rfl) (by kernel_rfl) (by kernel_rfl) (by kernel_rfl) zq13 rfl ?_)
  refine zc_take0 (i := 7) rfl (by kernel_rfl) (by kernel_rfl) (by kernel_rfl) (by kernel_rfl) zq27 rfl rfl zq16 ?_
  refine zc_take0 (i := 8) rfl (by kernel_rfl) (by kernel_rfl) (by kernel_rfl) (by kernel_rfl) zq27 rfl rfl (ZPure0.pure (zp_move rfl rfl)) ?_
  first | (refine zc_take0 (i := 9) rfl (by kernel_rfl) (by kernel_rfl) (by kernel_rfl) (by kernel_rfl) zq27 rfl rfl (ZPure0.pure (zp_move rfl rfl)) ?_) | (refine zc_notU (i := 9) rfl (by kernel_rfl) (by kernel_rfl) (by kernel_rfl) (by kernel_rfl) zq13 rfl ?_)
  first | (refine zc_take0 (i := 10) rfl (by kernel_rfl) (by kernel_rfl) (by kernel_rfl) (by kernel_rfl) zq27 rfl rfl (ZPure0.pure (zp_not rfl rfl)) ?_) | (refine zc_notU (i := 10) rfl (by kernel_rfl) (by kernel_rfl) (by kernel_rfl) (by kernel_rfl) zq13 rfl ?_)
  refine zc_take0 (i := 11) rfl (by kernel_rfl) (by kernel_rfl) (by kernel_rfl) (by kernel_rfl) zq27 rfl rfl zq16 ?_
  refine zc_take0 (i := 12) rfl (by kernel_rfl) (by kernel_rfl) (by kernel_rfl) (by kernel_rfl) zq27 rfl rfl (ZPure0.pure (zp_move rfl rfl)) ?_
  first | (refine zc_take0 (i := 13) rfl (by kernel_rfl) (by kernel_rfl) (by kernel_rfl) (by kernel_rfl) zq27 rfl rfl (ZPure0.pure (zp_move rfl rfl)) ?_) | (refine zc_notU (i := 13) rfl (by kernel_rfl) (by kernel_rfl) (by kernel_rfl) (by kernel_rfl) zq13 rfl ?_)
  first | (refine zc_take0 (i := 14) rfl (by kernel_rfl) (by kernel_rfl) (by kernel_rfl) (by kernel_rfl) zq27 rfl rfl zq8 ?_) | (refine zc_notU (i := 14) rfl (by kernel_rfl) (by kernel_rfl) (by kernel_rfl) (by kernel_rfl) zq13 rfl ?_)
  first | (refine zc_take0 (i := 15) rfl (by kernel_rfl) (by kernel_rfl) (by kernel_rfl) (by kernel_rfl) zq27 rfl rfl (ZPure0.pure (zp_eql rfl rfl rfl)) ?_) | (refine zc_notU (i := 15) rfl (by kernel_rfl) (by kernel_rfl) (by kernel_rfl) (by kernel_rfl) zq13 rfl ?_)
  refine zc_take0 (i := 16) rfl (by kernel_rfl) (by kernel_rfl) (by kernel_rfl) (by kernel_rfl) zq27 rfl rfl zq16 ?_
  refine zc_take0 (i := 17) rfl (by kernel_rfl) (by kernel_rfl) (by kernel_rfl) (by kernel_rfl) zq27 rfl rfl (ZPure0.pure (zp_move rfl rfl)) ?_
  first | (refine zc_take0 (i := 18) rfl (by kernel_rfl) (by kernel_rfl) (by kernel_rfl) (by kernel_rfl) zq27 rfl rfl (ZPure0.pure (zp_move rfl rfl)) ?_) | (refine zc_notU (i := 18) rfl (by kernel_rfl) (by kernel_rfl) (by kernel_rfl) (by kernel_rfl) zq13 rfl ?_)
  first | (refine zc_take0 (i := 19) rfl (by kernel_rfl) (by kernel_rfl) (by kernel_rfl) (by kernel_rfl) zq27 rfl rfl zq0 ?_) | (refine zc_notU (i := 19) rfl (by kernel_rfl) (by kernel_rfl) (by kernel_rfl) (by kernel_rfl) zq13 rfl ?_)
  first | (refine zc_take0 (i := 20) rfl (by kernel_rfl) (by kernel_rfl) (by kernel_rfl) (by kernel_rfl) zq27 rfl rfl zq17 ?_) | (refine zc_notU (i := 20) rfl (by kernel_rfl) (by kernel_rfl) (by kernel_rfl) (by kernel_rfl) zq13 rfl ?_)
  first | (first | (refine zc_take0 (i := 21) rfl (by kernel_rfl) (by kernel_rfl) (by kernel_rfl) (by kernel_rfl) zq27 rfl rfl (zp_load_ref rfl zq36 rfl rfl) ?_) | (refine zc_take0 (i := 21) rfl (by kernel_rfl) (by kernel_rfl) (by kernel_rfl) (by kernel_rfl) zq27 rfl rfl (zp_load_refAll rfl zq36 rfl rfl) ?_) | (refine zc_take (i := 21) rfl (by kernel_rfl) (by kernel_rfl) (by kernel_rfl) (by kernel_rfl) (by kernel_rfl) (by kernel_rfl) zq27 rfl rfl (zpb_load rfl zq36 rfl (.head _) rfl zq31) ?_) | (refine zc_take (i := 21) rfl (by kernel_rfl) (by kernel_rfl) (by kernel_rfl) (by kernel_rfl) (by kernel_rfl) (by kernel_rfl) zq27 rfl rfl (zpb_load rfl zq36 rfl (.tail _ (.head _)) rfl zq31) ?_) | (refine zc_take (i := 21) rfl (by kernel_rfl) (by kernel_rfl) (by kernel_rfl) (by kernel_rfl) (by kernel_rfl) (by kernel_rfl) zq27 rfl rfl (zpb_load rfl zq36 rfl (.tail _ (.tail _ (.head _))) rfl zq31) ?_) | (refine zc_take (i := 21) rfl (by kernel_rfl) (by kernel_rfl) (by kernel_rfl) (by kernel_rfl) (by kernel_rfl) (by kernel_rfl) zq27 rfl rfl (zpb_load_agg rfl zq36 rfl (.head _) rfl rfl zq30) ?_) | (refine zc_take (i := 21) rfl (by kernel_rfl) (by kernel_rfl) (by kernel_rfl) (by kernel_rfl) (by kernel_rfl) (by kernel_rfl) zq27 rfl rfl (zpb_load_agg rfl zq36 rfl (.tail _ (.head _)) rfl rfl zq30) ?_) | (refine zc_take (i := 21) rfl (by kernel_rfl) (by kernel_rfl) (by kernel_rfl) (by kernel_rfl) (by kernel_rfl) (by kernel_rfl) zq27 rfl rfl (zpb_load_agg rfl zq36 rfl (.tail _ (.tail _ (.head _))) rfl rfl zq30) ?_)) | (refine zc_notU (i := 21) rfl (by kernel_rfl) (by kernel_rfl) (by kernel_rfl) (by kernel_rfl) zq13 rfl ?_)
  first | (refine zc_take0 (i := 22) rfl (by kernel_rfl) (by kernel_rfl) (by kernel_rfl) (by kernel_rfl) zq27 rfl rfl (zp_toStr rfl zq37 Try.underlying5 Try.underlying9 rfl) ?_) | (refine zc_notU (i := 22) rfl (by kernel_rfl) (by kernel_rfl) (by kernel_rfl) (by kernel_rfl) zq13 rfl ?_)
  first | (refine zc_take0 (i := 23) rfl (by kernel_rfl) (by kernel_rfl) (by kernel_rfl) (by kernel_rfl) zq27 rfl rfl (ZPure0.pure (zp_streq rfl rfl rfl (.inl ⟨rfl, rfl⟩))) ?_) | (refine zc_notU (i := 23) rfl (by kernel_rfl) (by kernel_rfl) (by kernel_rfl) (by kernel_rfl) zq13 rfl ?_)
  refine zc_take0 (i := 24) rfl (by kernel_rfl) (by kernel_rfl) (by kernel_rfl) (by kernel_rfl) zq27 rfl rfl zq16 ?_
  refine zc_take0 (i := 25) rfl (by kernel_rfl) (by kernel_rfl) (by kernel_rfl) (by kernel_rfl) zq27 rfl rfl (ZPure0.pure (zp_move rfl rfl)) ?_
  skip
  refine zc_all2 (i := 26) (j := 28) (fun _ => by first | assumption | (repeat (first | exact BOwn.nil _ | refine BOwn.cons zq6 ?_))) (by kernel_rfl) ?_ ?_
  · refine zoneC_op (i := 26) (fun _ => by first | assumption | (repeat (first | exact BOwn.nil _ | refine BOwn.cons zq6 ?_))) rfl zq27 ?_
    refine ZVal.op rfl (by decide) (zv_buildSlice (e := 5) (xs := [.const (.int .u8 97)]) rfl rfl zq34 zq37 rfl (by simp [cellsD, oneD, Value.oneCell']) (by decide) fun ta hta hta0 => ?_)
    have gta := hS.T0 hta
    replace hS := hS.setT ta
    refine zc_all2 (i := 27) (j := 28) (fun _ => by first | assumption | (repeat (first | exact BOwn.nil _ | refine BOwn.cons zq6 ?_))) (by kernel_rfl) ?_ ?_
    · refine zoneC_op (i := 27) (fun _ => by first | assumption | (repeat (first | exact BOwn.nil _ | refine BOwn.cons zq6 ?_))) rfl zq27 ?_
      refine ZVal.op rfl (by decide) (zv_conv_bytes rfl zq37 Try.underlying5 rfl (by simp) (by decide) (by simp) ?_)
      replace hS := hS.setTa gta false
      refine zc_one_val (i := 28) (fun _ => by first | assumption | (repeat (first | exact BOwn.nil _ | refine BOwn.cons zq6 ?_))) (by kernel_rfl) rfl zq27 rfl rfl (zv_buildSlice (e := 5) (xs := [.const (.int .u8 97), .const (.int .u8 0)]) rfl rfl zq34 zq37 rfl (by simp [cellsD, oneD, Value.oneCell']) (by decide) fun tb htb htb0 => ?_)
      have gtb := hS.T0 htb
      replace hS := hS.setT tb
      refine zc_one_val (i := 29) (fun _ => by first | assumption | (repeat (first | exact BOwn.nil _ | refine BOwn.cons zq6 ?_))) (by kernel_rfl) rfl zq27 rfl rfl (zv_conv_bytes rfl zq37 Try.underlying5 rfl (by simp) (by decide) (by simp) ?_)
      replace hS := hS.setTa gtb false
      skip
      refine zc_one (i := 30) (fun _ => by first | assumption | (repeat (first | exact BOwn.nil _ | refine BOwn.cons zq6 ?_))) (by kernel_rfl) rfl zq27 (zop_callQ (less_pf (l := [97]) (m := [97, 0])) cl_15 rfl rfl (by decide) rfl rfl zq10 ?_ ?_)
      · trivial
      refine zc_take0 (i := 31) rfl (by kernel_rfl) (by kernel_rfl) (by kernel_rfl) (by kernel_rfl) zq27 rfl rfl zq16 ?_
      refine zc_take0 (i := 32) rfl (by kernel_rfl) (by kernel_rfl) (by kernel_rfl) (by kernel_rfl) zq27 rfl rfl (ZPure0.pure (zp_move rfl rfl)) ?_
      first | (refine zc_take0 (i := 33) rfl (by kernel_rfl) (by kernel_rfl) (by kernel_rfl) (by kernel_rfl) zq27 rfl rfl (ZPure0.pure (zp_build (xs := []) rfl (el_of rfl) (st_of rfl) rfl zq1)) ?_) | (refine zc_notU (i := 33) rfl (by kernel_rfl) (by kernel_rfl) (by kernel_rfl) (by kernel_rfl) zq13 rfl ?_)
      skip
      refine zc_one_val (i := 34) (fun _ => by first | assumption | (repeat (first | exact BOwn.nil _ | refine BOwn.cons zq6 ?_))) (by kernel_rfl) rfl zq27 rfl rfl (zv_litR (xs := [.tmp 72]) _ rfl rfl rfl zq37 zq34 zq29 zq33 (by decide) ?_)
      refine zc_one (i := 35) (fun _ => by first | assumption | (repeat (first | exact BOwn.nil _ | refine BOwn.cons zq6 ?_))) (by kernel_rfl) rfl zq27 (zop_callQ (mof_pf (key := []) (l := [(0, [], [])])) cl_21 rfl rfl (by decide) rfl rfl zq10 ?_ ?_)
      · exact ⟨by simp, hq3⟩
      first | (refine zc_take0 (i := 36) rfl (by kernel_rfl) (by kernel_rfl) (by kernel_rfl) (by kernel_rfl) zq27 rfl rfl zq8 ?_) | (refine zc_notU (i := 36) rfl (by kernel_rfl) (by kernel_rfl) (by kernel_rfl) (by kernel_rfl) zq13 rfl ?_)
      first | (refine zc_take0 (i := 37) rfl (by kernel_rfl) (by kernel_rfl) (by kernel_rfl) (by kernel_rfl) zq27 rfl rfl (ZPure0.pure (zp_eql rfl rfl rfl)) ?_) | (refine zc_notU (i := 37) rfl (by kernel_rfl) (by kernel_rfl) (by kernel_rfl) (by kernel_rfl) zq13 rfl ?_)
      refine zc_take0 (i := 38) rfl (by kernel_rfl) (by kernel_rfl) (by kernel_rfl) (by kernel_rfl) zq27 rfl rfl zq16 ?_
      refine zc_take0 (i := 39) rfl (by kernel_rfl) (by kernel_rfl) (by kernel_rfl) (by kernel_rfl) zq27 rfl rfl (ZPure0.pure (zp_assign rfl rfl)) ?_
      first | refine zc_end (fun _ => by first | assumption | (repeat (first | exact BOwn.nil _ | refine BOwn.cons zq6 ?_))) (by kernel_rfl) ?_ | refine zc_endB (fun _ => by first | assumption | (repeat (first | exact BOwn.nil _ | refine BOwn.cons zq6 ?_))) (by kernel_rfl) ?_ | refine zc_endBB (fun _ => by first | assumption | (repeat (first | exact BOwn.nil _ | refine BOwn.cons zq6 ?_))) (by kernel_rfl) ?_ | refine zc_done (fun _ => by first | assumption | (repeat (first | exact BOwn.nil _ | refine BOwn.cons zq6 ?_))) (by kernel_rfl) ?_
      (repeat (first | ((with_reducible apply zr_retZ); (exact rfl); (repeat (first | exact resD_nil _ _ _ | ((with_reducible apply resD_tmp); (exact rfl)) | ((with_reducible apply resD_cell_agg); (exact rfl); (exact sh_of rfl); (first | assumption | exact St.setH_self _ _ _ | exact Sep.at_ (i := 0) (by assumption) rfl | exact Sep.at_ (i := 1) (by assumption) rfl | exact Sep.at_ (i := 2) (by assumption) rfl | exact Sep.at_ (i := 3) (by assumption) rfl | exact Sep.at_ (i := 4) (by assumption) rfl | exact Sep.at_ (i := 5) (by assumption) rfl | exact Sep.at_ (i := 6) (by assumption) rfl); (exact rfl)) | ((with_reducible apply resD_cell); (exact rfl); (exact sh_of rfl); (first | assumption | exact St.setH_self _ _ _ | exact Sep.at_ (i := 0) (by assumption) rfl | exact Sep.at_ (i := 1) (by assumption) rfl | exact Sep.at_ (i := 2) (by assumption) rfl | exact Sep.at_ (i := 3) (by assumption) rfl | exact Sep.at_ (i := 4) (by assumption) rfl | exact Sep.at_ (i := 5) (by assumption) rfl | exact Sep.at_ (i := 6) (by assumption) rfl); (exact rfl)))); (simp only [resOf]))))
      exact KE.mk st hS.ext hK
    · refine zoneC_op (i := 28) (fun _ => by first | assumption | (repeat (first | exact BOwn.nil _ | refine BOwn.cons zq6 ?_))) rfl zq27 ?_
      refine ZVal.op rfl (by decide) (zv_buildSlice (e := 5) (xs := [.const (.int .u8 97), .const (.int .u8 0)]) rfl rfl zq34 zq37 rfl (by simp [cellsD, oneD, Value.oneCell']) (by decide) fun tb htb htb0 => ?_)
      have gtb := hS.T0 htb
      replace hS := hS.setT tb
      have hne : ta ≠ tb := fun e => by subst e; simp at htb
      refine zc_all2 (i := 27) (j := 29) (fun _ => by first | assumption | (repeat (first | exact BOwn.nil _ | refine BOwn.cons zq6 ?_))) (by kernel_rfl) ?_ ?_
      · refine zoneC_op (i := 27) (fun _ => by first | assumption | (repeat (first | exact BOwn.nil _ | refine BOwn.cons zq6 ?_))) rfl zq27 ?_
        refine ZVal.op rfl (by decide) (zv_conv_bytes rfl zq37 Try.underlying5 rfl (by simp [hne, Ne.symm hne]) (by decide) (by simp) ?_)
        replace hS := hS.setTa gta false
        refine zc_one_val (i := 29) (fun _ => by first | assumption | (repeat (first | exact BOwn.nil _ | refine BOwn.cons zq6 ?_))) (by kernel_rfl) rfl zq27 rfl rfl (zv_conv_bytes rfl zq37 Try.underlying5 rfl (by simp [hne, Ne.symm hne]) (by decide) (by simp) ?_)
        replace hS := hS.setTa gtb false
        skip
        refine zc_one (i := 30) (fun _ => by first | assumption | (repeat (first | exact BOwn.nil _ | refine BOwn.cons zq6 ?_))) (by kernel_rfl) rfl zq27 (zop_callQ (less_pf (l := [97]) (m := [97, 0])) cl_15 rfl rfl (by decide) rfl rfl zq10 ?_ ?_)
        · trivial
        refine zc_take0 (i := 31) rfl (by kernel_rfl) (by kernel_rfl) (by kernel_rfl) (by kernel_rfl) zq27 rfl rfl zq16 ?_
        refine zc_take0 (i := 32) rfl (by kernel_rfl) (by kernel_rfl) (by kernel_rfl) (by kernel_rfl) zq27 rfl rfl (ZPure0.pure (zp_move rfl rfl)) ?_
        first | (refine zc_take0 (i := 33) rfl (by kernel_rfl) (by kernel_rfl) (by kernel_rfl) (by kernel_rfl) zq27 rfl rfl (ZPure0.pure (zp_build (xs := []) rfl (el_of rfl) (st_of rfl) rfl zq1)) ?_) | (refine zc_notU (i := 33) rfl (by kernel_rfl) (by kernel_rfl) (by kernel_rfl) (by kernel_rfl) zq13 rfl ?_)
        skip
        refine zc_one_val (i := 34) (fun _ => by first | assumption | (repeat (first | exact BOwn.nil _ | refine BOwn.cons zq6 ?_))) (by kernel_rfl) rfl zq27 rfl rfl (zv_litR (xs := [.tmp 72]) _ rfl rfl rfl zq37 zq34 zq29 zq33 (by decide) ?_)
        refine zc_one (i := 35) (fun _ => by first | assumption | (repeat (first | exact BOwn.nil _ | refine BOwn.cons zq6 ?_))) (by kernel_rfl) rfl zq27 (zop_callQ (mof_pf (key := []) (l := [(0, [], [])])) cl_21 rfl rfl (by decide) rfl rfl zq10 ?_ ?_)
        · exact ⟨by simp, hq3⟩
        first | (refine zc_take0 (i := 36) rfl (by kernel_rfl) (by kernel_rfl) (by kernel_rfl) (by kernel_rfl) zq27 rfl rfl zq8 ?_) | (refine zc_notU (i := 36) rfl (by kernel_rfl) (by kernel_rfl) (by kernel_rfl) (by kernel_rfl) zq13 rfl ?_)
        first | (refine zc_take0 (i := 37) rfl (by kernel_rfl) (by kernel_rfl) (by kernel_rfl) (by kernel_rfl) zq27 rfl rfl (ZPure0.pure (zp_eql rfl rfl rfl)) ?_) | (refine zc_notU (i := 37) rfl (by kernel_rfl) (by kernel_rfl) (by kernel_rfl) (by kernel_rfl) zq13 rfl ?_)
        refine zc_take0 (i := 38) rfl (by kernel_rfl) (by kernel_rfl) (by kernel_rfl) (by kernel_rfl) zq27 rfl rfl zq16 ?_
        refine zc_take0 (i := 39) rfl (by kernel_rfl) (by kernel_rfl) (by kernel_rfl) (by kernel_rfl) zq27 rfl rfl (ZPure0.pure (zp_assign rfl rfl)) ?_
        first | refine zc_end (fun _ => by first | assumption | (repeat (first | exact BOwn.nil _ | refine BOwn.cons zq6 ?_))) (by kernel_rfl) ?_ | refine zc_endB (fun _ => by first | assumption | (repeat (first | exact BOwn.nil _ | refine BOwn.cons zq6 ?_))) (by kernel_rfl) ?_ | refine zc_endBB (fun _ => by first | assumption | (repeat (first | exact BOwn.nil _ | refine BOwn.cons zq6 ?_))) (by kernel_rfl) ?_ | refine zc_done (fun _ => by first | assumption | (repeat (first | exact BOwn.nil _ | refine BOwn.cons zq6 ?_))) (by kernel_rfl) ?_
        (repeat (first | ((with_reducible apply zr_retZ); (exact rfl); (repeat (first | exact resD_nil _ _ _ | ((with_reducible apply resD_tmp); (exact rfl)) | ((with_reducible apply resD_cell_agg); (exact rfl); (exact sh_of rfl); (first | assumption | exact St.setH_self _ _ _ | exact Sep.at_ (i := 0) (by assumption) rfl | exact Sep.at_ (i := 1) (by assumption) rfl | exact Sep.at_ (i := 2) (by assumption) rfl | exact Sep.at_ (i := 3) (by assumption) rfl | exact Sep.at_ (i := 4) (by assumption) rfl | exact Sep.at_ (i := 5) (by assumption) rfl | exact Sep.at_ (i := 6) (by assumption) rfl); (exact rfl)) | ((with_reducible apply resD_cell); (exact rfl); (exact sh_of rfl); (first | assumption | exact St.setH_self _ _ _ | exact Sep.at_ (i := 0) (by assumption) rfl | exact Sep.at_ (i := 1) (by assumption) rfl | exact Sep.at_ (i := 2) (by assumption) rfl | exact Sep.at_ (i := 3) (by assumption) rfl | exact Sep.at_ (i := 4) (by assumption) rfl | exact Sep.at_ (i := 5) (by assumption) rfl | exact Sep.at_ (i := 6) (by assumption) rfl); (exact rfl)))); (simp only [resOf]))))
        exact KE.mk st hS.ext hK
      · refine zoneC_op (i := 29) (fun _ => by first | assumption | (repeat (first | exact BOwn.nil _ | refine BOwn.cons zq6 ?_))) rfl zq27 ?_
        refine ZVal.op rfl (by decide) (zv_conv_bytes rfl zq37 Try.underlying5 rfl (by simp [hne, Ne.symm hne]) (by decide) (by simp) ?_)
        replace hS := hS.setTa gtb false
        refine zc_one_val (i := 27) (fun _ => by first | assumption | (repeat (first | exact BOwn.nil _ | refine BOwn.cons zq6 ?_))) (by kernel_rfl) rfl zq27 rfl rfl (zv_conv_bytes rfl zq37 Try.underlying5 rfl (by simp [hne, Ne.symm hne]) (by decide) (by simp) ?_)
        replace hS := hS.setTa gta false
        skip
        refine zc_one (i := 30) (fun _ => by first | assumption | (repeat (first | exact BOwn.nil _ | refine BOwn.cons zq6 ?_))) (by kernel_rfl) rfl zq27 (zop_callQ (less_pf (l := [97]) (m := [97, 0])) cl_15 rfl rfl (by decide) rfl rfl zq10 ?_ ?_)
        · trivial
        refine zc_take0 (i := 31) rfl (by kernel_rfl) (by kernel_rfl) (by kernel_rfl) (by kernel_rfl) zq27 rfl rfl zq16 ?_
        refine zc_take0 (i := 32) rfl (by kernel_rfl) (by kernel_rfl) (by kernel_rfl) (by kernel_rfl) zq27 rfl rfl (ZPure0.pure (zp_move rfl rfl)) ?_
        first | (refine zc_take0 (i := 33) rfl (by kernel_rfl) (by kernel_rfl) (by kernel_rfl) (by kernel_rfl) zq27 rfl rfl (ZPure0.pure (zp_build (xs := []) rfl (el_of rfl) (st_of rfl) rfl zq1)) ?_) | (refine zc_notU (i := 33) rfl (by kernel_rfl) (by kernel_rfl) (by kernel_rfl) (by kernel_rfl) zq13 rfl ?_)
        skip
        refine zc_one_val (i := 34) (fun _ => by first | assumption | (repeat (first | exact BOwn.nil _ | refine BOwn.cons zq6 ?_))) (by kernel_rfl) rfl zq27 rfl rfl (zv_litR (xs := [.tmp 72]) _ rfl rfl rfl zq37 zq34 zq29 zq33 (by decide) ?_)
        refine zc_one (i := 35) (fun _ => by first | assumption | (repeat (first | exact BOwn.nil _ | refine BOwn.cons zq6 ?_))) (by kernel_rfl) rfl zq27 (zop_callQ (mof_pf (key := []) (l := [(0, [], [])])) cl_21 rfl rfl (by decide) rfl rfl zq10 ?_ ?_)
        · exact ⟨by simp, hq3⟩
        first | (refine zc_take0 (i := 36) rfl (by kernel_rfl) (by kernel_rfl) (by kernel_rfl) (by kernel_rfl) zq27 rfl rfl zq8 ?_) | (refine zc_notU (i := 36) rfl (by kernel_rfl) (by kernel_rfl) (by kernel_rfl) (by kernel_rfl) zq13 rfl ?_)
        first | (refine zc_take0 (i := 37) rfl (by kernel_rfl) (by kernel_rfl) (by kernel_rfl) (by kernel_rfl) zq27 rfl rfl (ZPure0.pure (zp_eql rfl rfl rfl)) ?_) | (refine zc_notU (i := 37) rfl (by kernel_rfl) (by kernel_rfl) (by kernel_rfl) (by kernel_rfl) zq13 rfl ?_)
        refine zc_take0 (i := 38) rfl (by kernel_rfl) (by kernel_rfl) (by kernel_rfl) (by kernel_rfl) zq27 rfl rfl zq16 ?_
        refine zc_take0 (i := 39) rfl (by kernel_rfl) (by kernel_rfl) (by kernel_rfl) (by kernel_rfl) zq27 rfl rfl (ZPure0.pure (zp_assign rfl rfl)) ?_
        first | refine zc_end (fun _ => by first | assumption | (repeat (first | exact BOwn.nil _ | refine BOwn.cons zq6 ?_))) (by kernel_rfl) ?_ | refine zc_endB (fun _ => by first | assumption | (repeat (first | exact BOwn.nil _ | refine BOwn.cons zq6 ?_))) (by kernel_rfl) ?_ | refine zc_endBB (fun _ => by first | assumption | (repeat (first | exact BOwn.nil _ | refine BOwn.cons zq6 ?_))) (by kernel_rfl) ?_ | refine zc_done (fun _ => by first | assumption | (repeat (first | exact BOwn.nil _ | refine BOwn.cons zq6 ?_))) (by kernel_rfl) ?_
        (repeat (first | ((with_reducible apply zr_retZ); (exact rfl); (repeat (first | exact resD_nil _ _ _ | ((with_reducible apply resD_tmp); (exact rfl)) | ((with_reducible apply resD_cell_agg); (exact rfl); (exact sh_of rfl); (first | assumption | exact St.setH_self _ _ _ | exact Sep.at_ (i := 0) (by assumption) rfl | exact Sep.at_ (i := 1) (by assumption) rfl | exact Sep.at_ (i := 2) (by assumption) rfl | exact Sep.at_ (i := 3) (by assumption) rfl | exact Sep.at_ (i := 4) (by assumption) rfl | exact Sep.at_ (i := 5) (by assumption) rfl | exact Sep.at_ (i := 6) (by assumption) rfl); (exact rfl)) | ((with_reducible apply resD_cell); (exact rfl); (exact sh_of rfl); (first | assumption | exact St.setH_self _ _ _ | exact Sep.at_ (i := 0) (by assumption) rfl | exact Sep.at_ (i := 1) (by assumption) rfl | exact Sep.at_ (i := 2) (by assumption) rfl | exact Sep.at_ (i := 3) (by assumption) rfl | exact Sep.at_ (i := 4) (by assumption) rfl | exact Sep.at_ (i := 5) (by assumption) rfl | exact Sep.at_ (i := 6) (by assumption) rfl); (exact rfl)))); (simp only [resOf]))))
        exact KE.mk st hS.ext hK
  · refine zoneC_op (i := 28) (fun _ => by first | assumption | (repeat (first | exact BOwn.nil _ | refine BOwn.cons zq6 ?_))) rfl zq27 ?_
    refine ZVal.op rfl (by decide) (zv_buildSlice (e := 5) (xs := [.const (.int .u8 97), .const (.int .u8 0)]) rfl rfl zq34 zq37 rfl (by simp [cellsD, oneD, Value.oneCell']) (by decide) fun tb htb htb0 => ?_)
    have gtb := hS.T0 htb
    replace hS := hS.setT tb
    refine zc_all2 (i := 26) (j := 29) (fun _ => by first | assumption | (repeat (first | exact BOwn.nil _ | refine BOwn.cons zq6 ?_))) (by kernel_rfl) ?_ ?_
    · refine zoneC_op (i := 26) (fun _ => by first | assumption | (repeat (first | exact BOwn.nil _ | refine BOwn.cons zq6 ?_))) rfl zq27 ?_
      refine ZVal.op rfl (by decide) (zv_buildSlice (e := 5) (xs := [.const (.int .u8 97)]) rfl rfl zq34 zq37 rfl (by simp [cellsD, oneD, Value.oneCell']) (by decide) fun ta hta hta0 => ?_)
      have gta := hS.T0 hta
      replace hS := hS.setT ta
      have hne : ta ≠ tb := fun e => by subst e; simp at hta
      refine zc_all2 (i := 27) (j := 29) (fun _ => by first | assumption | (repeat (first | exact BOwn.nil _ | refine BOwn.cons zq6 ?_))) (by kernel_rfl) ?_ ?_
      · refine zoneC_op (i := 27) (fun _ => by first | assumption | (repeat (first | exact BOwn.nil _ | refine BOwn.cons zq6 ?_))) rfl zq27 ?_
        refine ZVal.op rfl (by decide) (zv_conv_bytes rfl zq37 Try.underlying5 rfl (by simp [hne, Ne.symm hne]) (by decide) (by simp) ?_)
        replace hS := hS.setTa gta false
        refine zc_one_val (i := 29) (fun _ => by first | assumption | (repeat (first | exact BOwn.nil _ | refine BOwn.cons zq6 ?_))) (by kernel_rfl) rfl zq27 rfl rfl (zv_conv_bytes rfl zq37 Try.underlying5 rfl (by simp [hne, Ne.symm hne]) (by decide) (by simp) ?_)
        replace hS := hS.setTa gtb false
        skip
        refine zc_one (i := 30) (fun _ => by first | assumption | (repeat (first | exact BOwn.nil _ | refine BOwn.cons zq6 ?_))) (by kernel_rfl) rfl zq27 (zop_callQ (less_pf (l := [97]) (m := [97, 0])) cl_15 rfl rfl (by decide) rfl rfl zq10 ?_ ?_)
        · trivial
        refine zc_take0 (i := 31) rfl (by kernel_rfl) (by kernel_rfl) (by kernel_rfl) (by kernel_rfl) zq27 rfl rfl zq16 ?_
        refine zc_take0 (i := 32) rfl (by kernel_rfl) (by kernel_rfl) (by kernel_rfl) (by kernel_rfl) zq27 rfl rfl (ZPure0.pure (zp_move rfl rfl)) ?_
        first | (refine zc_take0 (i := 33) rfl (by kernel_rfl) (by kernel_rfl) (by kernel_rfl) (by kernel_rfl) zq27 rfl rfl (ZPure0.pure (zp_build (xs := []) rfl (el_of rfl) (st_of rfl) rfl zq1)) ?_) | (refine zc_notU (i := 33) rfl (by kernel_rfl) (by kernel_rfl) (by kernel_rfl) (by kernel_rfl) zq13 rfl ?_)
        skip
        refine zc_one_val (i := 34) (fun _ => by first | assumption | (repeat (first | exact BOwn.nil _ | refine BOwn.cons zq6 ?_))) (by kernel_rfl) rfl zq27 rfl rfl (zv_litR (xs := [.tmp 72]) _ rfl rfl rfl zq37 zq34 zq29 zq33 (by decide) ?_)
        refine zc_one (i := 35) (fun _ => by first | assumption | (repeat (first | exact BOwn.nil _ | refine BOwn.cons zq6 ?_))) (by kernel_rfl) rfl zq27 (zop_callQ (mof_pf (key := []) (l := [(0, [], [])])) cl_21 rfl rfl (by decide) rfl rfl zq10 ?_ ?_)
        · exact ⟨by simp, hq3⟩
        first | (refine zc_take0 (i := 36) rfl (by kernel_rfl) (by kernel_rfl) (by kernel_rfl) (by kernel_rfl) zq27 rfl rfl zq8 ?_) | (refine zc_notU (i := 36) rfl (by kernel_rfl) (by kernel_rfl) (by kernel_rfl) (by kernel_rfl) zq13 rfl ?_)
        first | (refine zc_take0 (i := 37) rfl (by kernel_rfl) (by kernel_rfl) (by kernel_rfl) (by kernel_rfl) zq27 rfl rfl (ZPure0.pure (zp_eql rfl rfl rfl)) ?_) | (refine zc_notU (i := 37) rfl (by kernel_rfl) (by kernel_rfl) (by kernel_rfl) (by kernel_rfl) zq13 rfl ?_)
        refine zc_take0 (i := 38) rfl (by kernel_rfl) (by kernel_rfl) (by kernel_rfl) (by kernel_rfl) zq27 rfl rfl zq16 ?_
        refine zc_take0 (i := 39) rfl (by kernel_rfl) (by kernel_rfl) (by kernel_rfl) (by kernel_rfl) zq27 rfl rfl (ZPure0.pure (zp_assign rfl rfl)) ?_
        first | refine zc_end (fun _ => by first | assumption | (repeat (first | exact BOwn.nil _ | refine BOwn.cons zq6 ?_))) (by kernel_rfl) ?_ | refine zc_endB (fun _ => by first | assumption | (repeat (first | exact BOwn.nil _ | refine BOwn.cons zq6 ?_))) (by kernel_rfl) ?_ | refine zc_endBB (fun _ => by first | assumption | (repeat (first | exact BOwn.nil _ | refine BOwn.cons zq6 ?_))) (by kernel_rfl) ?_ | refine zc_done (fun _ => by first | assumption | (repeat (first | exact BOwn.nil _ | refine BOwn.cons zq6 ?_))) (by kernel_rfl) ?_
        (repeat (first | ((with_reducible apply zr_retZ); (exact rfl); (repeat (first | exact resD_nil _ _ _ | ((with_reducible apply resD_tmp); (exact rfl)) | ((with_reducible apply resD_cell_agg); (exact rfl); (exact sh_of rfl); (first | assumption | exact St.setH_self _ _ _ | exact Sep.at_ (i := 0) (by assumption) rfl | exact Sep.at_ (i := 1) (by assumption) rfl | exact Sep.at_ (i := 2) (by assumption) rfl | exact Sep.at_ (i := 3) (by assumption) rfl | exact Sep.at_ (i := 4) (by assumption) rfl | exact Sep.at_ (i := 5) (by assumption) rfl | exact Sep.at_ (i := 6) (by assumption) rfl); (exact rfl)) | ((with_reducible apply resD_cell); (exact rfl); (exact sh_of rfl); (first | assumption | exact St.setH_self _ _ _ | exact Sep.at_ (i := 0) (by assumption) rfl | exact Sep.at_ (i := 1) (by assumption) rfl | exact Sep.at_ (i := 2) (by assumption) rfl | exact Sep.at_ (i := 3) (by assumption) rfl | exact Sep.at_ (i := 4) (by assumption) rfl | exact Sep.at_ (i := 5) (by assumption) rfl | exact Sep.at_ (i := 6) (by assumption) rfl); (exact rfl)))); (simp only [resOf]))))
        exact KE.mk st hS.ext hK
      · refine zoneC_op (i := 29) (fun _ => by first | assumption | (repeat (first | exact BOwn.nil _ | refine BOwn.cons zq6 ?_))) rfl zq27 ?_
        refine ZVal.op rfl (by decide) (zv_conv_bytes rfl zq37 Try.underlying5 rfl (by simp [hne, Ne.symm hne]) (by decide) (by simp) ?_)
        replace hS := hS.setTa gtb false
        refine zc_one_val (i := 27) (fun _ => by first | assumption | (repeat (first | exact BOwn.nil _ | refine BOwn.cons zq6 ?_))) (by kernel_rfl) rfl zq27 rfl rfl (zv_conv_bytes rfl zq37 Try.underlying5 rfl (by simp [hne, Ne.symm hne]) (by decide) (by simp) ?_)
        replace hS := hS.setTa gta false
        skip
        refine zc_one (i := 30) (fun _ => by first | assumption | (repeat (first | exact BOwn.nil _ | refine BOwn.cons zq6 ?_))) (by kernel_rfl) rfl zq27 (zop_callQ (less_pf (l := [97]) (m := [97, 0])) cl_15 rfl rfl (by decide) rfl rfl zq10 ?_ ?_)
        · trivial
        refine zc_take0 (i := 31) rfl (by kernel_rfl) (by kernel_rfl) (by kernel_rfl) (by kernel_rfl) zq27 rfl rfl zq16 ?_
        refine zc_take0 (i := 32) rfl (by kernel_rfl) (by kernel_rfl) (by kernel_rfl) (by kernel_rfl) zq27 rfl rfl (ZPure0.pure (zp_move rfl rfl)) ?_
        first | (refine zc_take0 (i := 33) rfl (by kernel_rfl) (by kernel_rfl) (by kernel_rfl) (by kernel_rfl) zq27 rfl rfl (ZPure0.pure (zp_build (xs := []) rfl (el_of rfl) (st_of rfl) rfl zq1)) ?_) | (refine zc_notU (i := 33) rfl (by kernel_rfl) (by kernel_rfl) (by kernel_rfl) (by kernel_rfl) zq13 rfl ?_)
        skip
        refine zc_one_val (i := 34) (fun _ => by first | assumption | (repeat (first | exact BOwn.nil _ | refine BOwn.cons zq6 ?_))) (by kernel_rfl) rfl zq27 rfl rfl (zv_litR (xs := [.tmp 72]) _ rfl rfl rfl zq37 zq34 zq29 zq33 (by decide) ?_)
        refine zc_one (i := 35) (fun _ => by first | assumption | (repeat (first | exact BOwn.nil _ | refine BOwn.cons zq6 ?_))) (by kernel_rfl) rfl zq27 (zop_callQ (mof_pf (key := []) (l := [(0, [], [])])) cl_21 rfl rfl (by decide) rfl rfl zq10 ?_ ?_)
        · exact ⟨by simp, hq3⟩
        first | (refine zc_take0 (i := 36) rfl (by kernel_rfl) (by kernel_rfl) (by kernel_rfl) (by kernel_rfl) zq27 rfl rfl zq8 ?_) | (refine zc_notU (i := 36) rfl (by kernel_rfl) (by kernel_rfl) (by kernel_rfl) (by kernel_rfl) zq13 rfl ?_)
        first | (refine zc_take0 (i := 37) rfl (by kernel_rfl) (by kernel_rfl) (by kernel_rfl) (by kernel_rfl) zq27 rfl rfl (ZPure0.pure (zp_eql rfl rfl rfl)) ?_) | (refine zc_notU (i := 37) rfl (by kernel_rfl) (by kernel_rfl) (by kernel_rfl) (by kernel_rfl) zq13 rfl ?_)
        refine zc_take0 (i := 38) rfl (by kernel_rfl) (by kernel_rfl) (by kernel_rfl) (by kernel_rfl) zq27 rfl rfl zq16 ?_
        refine zc_take0 (i := 39) rfl (by kernel_rfl) (by kernel_rfl) (by kernel_rfl) (by kernel_rfl) zq27 rfl rfl (ZPure0.pure (zp_assign rfl rfl)) ?_
        first | refine zc_end (fun _ => by first | assumption | (repeat (first | exact BOwn.nil _ | refine BOwn.cons zq6 ?_))) (by kernel_rfl) ?_ | refine zc_endB (fun _ => by first | assumption | (repeat (first | exact BOwn.nil _ | refine BOwn.cons zq6 ?_))) (by kernel_rfl) ?_ | refine zc_endBB (fun _ => by first | assumption | (repeat (first | exact BOwn.nil _ | refine BOwn.cons zq6 ?_))) (by kernel_rfl) ?_ | refine zc_done (fun _ => by first | assumption | (repeat (first | exact BOwn.nil _ | refine BOwn.cons zq6 ?_))) (by kernel_rfl) ?_
        (repeat (first | ((with_reducible apply zr_retZ); (exact rfl); (repeat (first | exact resD_nil _ _ _ | ((with_reducible apply resD_tmp); (exact rfl)) | ((with_reducible apply resD_cell_agg); (exact rfl); (exact sh_of rfl); (first | assumption | exact St.setH_self _ _ _ | exact Sep.at_ (i := 0) (by assumption) rfl | exact Sep.at_ (i := 1) (by assumption) rfl | exact Sep.at_ (i := 2) (by assumption) rfl | exact Sep.at_ (i := 3) (by assumption) rfl | exact Sep.at_ (i := 4) (by assumption) rfl | exact Sep.at_ (i := 5) (by assumption) rfl | exact Sep.at_ (i := 6) (by assumption) rfl); (exact rfl)) | ((with_reducible apply resD_cell); (exact rfl); (exact sh_of rfl); (first | assumption | exact St.setH_self _ _ _ | exact Sep.at_ (i := 0) (by assumption) rfl | exact Sep.at_ (i := 1) (by assumption) rfl | exact Sep.at_ (i := 2) (by assumption) rfl | exact Sep.at_ (i := 3) (by assumption) rfl | exact Sep.at_ (i := 4) (by assumption) rfl | exact Sep.at_ (i := 5) (by assumption) rfl | exact Sep.at_ (i := 6) (by assumption) rfl); (exact rfl)))); (simp only [resOf]))))
        exact KE.mk st hS.ext hK
    · refine zoneC_op (i := 29) (fun _ => by first | assumption | (repeat (first | exact BOwn.nil _ | refine BOwn.cons zq6 ?_))) rfl zq27 ?_
      refine ZVal.op rfl (by decide) (zv_conv_bytes rfl zq37 Try.underlying5 rfl (by simp) (by decide) (by simp) ?_)
      replace hS := hS.setTa gtb false
      refine zc_one_val (i := 26) (fun _ => by first | assumption | (repeat (first | exact BOwn.nil _ | refine BOwn.cons zq6 ?_))) (by kernel_rfl) rfl zq27 rfl rfl (zv_buildSlice (e := 5) (xs := [.const (.int .u8 97)]) rfl rfl zq34 zq37 rfl (by simp [cellsD, oneD, Value.oneCell']) (by decide) fun ta hta hta0 => ?_)
      have gta := hS.T0 hta
      replace hS := hS.setT ta
      refine zc_one_val (i := 27) (fun _ => by first | assumption | (repeat (first | exact BOwn.nil _ | refine BOwn.cons zq6 ?_))) (by kernel_rfl) rfl zq27 rfl rfl (zv_conv_bytes rfl zq37 Try.underlying5 rfl (by simp) (by decide) (by simp) ?_)
      replace hS := hS.setTa gta false
      skip
      refine zc_one (i := 30) (fun _ => by first | assumption | (repeat (first | exact BOwn.nil _ | refine BOwn.cons zq6 ?_))) (by kernel_rfl) rfl zq27 (zop_callQ (less_pf (l := [97]) (m := [97, 0])) cl_15 rfl rfl (by decide) rfl rfl zq10 ?_ ?_)
      · trivial
      refine zc_take0 (i := 31) rfl (by kernel_rfl) (by kernel_rfl) (by kernel_rfl) (by kernel_rfl) zq27 rfl rfl zq16 ?_
      refine zc_take0 (i := 32) rfl (by kernel_rfl) (by kernel_rfl) (by kernel_rfl) (by kernel_rfl) zq27 rfl rfl (ZPure0.pure (zp_move rfl rfl)) ?_
      first | (refine zc_take0 (i := 33) rfl (by kernel_rfl) (by kernel_rfl) (by kernel_rfl) (by kernel_rfl) zq27 rfl rfl (ZPure0.pure (zp_build (xs := []) rfl (el_of rfl) (st_of rfl) rfl zq1)) ?_) | (refine zc_notU (i := 33) rfl (by kernel_rfl) (by kernel_rfl) (by kernel_rfl) (by kernel_rfl) zq13 rfl ?_)
      skip
      refine zc_one_val (i := 34) (fun _ => by first | assumption | (repeat (first | exact BOwn.nil _ | refine BOwn.cons zq6 ?_))) (by kernel_rfl) rfl zq27 rfl rfl (zv_litR (xs := [.tmp 72]) _ rfl rfl rfl zq37 zq34 zq29 zq33 (by decide) ?_)
      refine zc_one (i := 35) (fun _ => by first | assumption | (repeat (first | exact BOwn.nil _ | refine BOwn.cons zq6 ?_))) (by kernel_rfl) rfl zq27 (zop_callQ (mof_pf (key := []) (l := [(0, [], [])])) cl_21 rfl rfl (by decide) rfl rfl zq10 ?_ ?_)
      · exact ⟨by simp, hq3⟩
      first | (refine zc_take0 (i := 36) rfl (by kernel_rfl) (by kernel_rfl) (by kernel_rfl) (by kernel_rfl) zq27 rfl rfl zq8 ?_) | (refine zc_notU (i := 36) rfl (by kernel_rfl) (by kernel_rfl) (by kernel_rfl) (by kernel_rfl) zq13 rfl ?_)
      first | (refine zc_take0 (i := 37) rfl (by kernel_rfl) (by kernel_rfl) (by kernel_rfl) (by kernel_rfl) zq27 rfl rfl (ZPure0.pure (zp_eql rfl rfl rfl)) ?_) | (refine zc_notU (i := 37) rfl (by kernel_rfl) (by kernel_rfl) (by kernel_rfl) (by kernel_rfl) zq13 rfl ?_)
      refine zc_take0 (i := 38) rfl (by kernel_rfl) (by kernel_rfl) (by kernel_rfl) (by kernel_rfl) zq27 rfl rfl zq16 ?_
      refine zc_take0 (i := 39) rfl (by kernel_rfl) (by kernel_rfl) (by kernel_rfl) (by kernel_rfl) zq27 rfl rfl (ZPure0.pure (zp_assign rfl rfl)) ?_
      first | refine zc_end (fun _ => by first | assumption | (repeat (first | exact BOwn.nil _ | refine BOwn.cons zq6 ?_))) (by kernel_rfl) ?_ | refine zc_endB (fun _ => by first | assumption | (repeat (first | exact BOwn.nil _ | refine BOwn.cons zq6 ?_))) (by kernel_rfl) ?_ | refine zc_endBB (fun _ => by first | assumption | (repeat (first | exact BOwn.nil _ | refine BOwn.cons zq6 ?_))) (by kernel_rfl) ?_ | refine zc_done (fun _ => by first | assumption | (repeat (first | exact BOwn.nil _ | refine BOwn.cons zq6 ?_))) (by kernel_rfl) ?_
      (repeat (first | ((with_reducible apply zr_retZ); (exact rfl); (repeat (first | exact resD_nil _ _ _ | ((with_reducible apply resD_tmp); (exact rfl)) | ((with_reducible apply resD_cell_agg); (exact rfl); (exact sh_of rfl); (first | assumption | exact St.setH_self _ _ _ | exact Sep.at_ (i := 0) (by assumption) rfl | exact Sep.at_ (i := 1) (by assumption) rfl | exact Sep.at_ (i := 2) (by assumption) rfl | exact Sep.at_ (i := 3) (by assumption) rfl | exact Sep.at_ (i := 4) (by assumption) rfl | exact Sep.at_ (i := 5) (by assumption) rfl | exact Sep.at_ (i := 6) (by assumption) rfl); (exact rfl)) | ((with_reducible apply resD_cell); (exact rfl); (exact sh_of rfl); (first | assumption | exact St.setH_self _ _ _ | exact Sep.at_ (i := 0) (by assumption) rfl | exact Sep.at_ (i := 1) (by assumption) rfl | exact Sep.at_ (i := 2) (by assumption) rfl | exact Sep.at_ (i := 3) (by assumption) rfl | exact Sep.at_ (i := 4) (by assumption) rfl | exact Sep.at_ (i := 5) (by assumption) rfl | exact Sep.at_ (i := 6) (by assumption) rfl); (exact rfl)))); (simp only [resOf]))))
      exact KE.mk st hS.ext hK
end Go.Proofs.ZtLe
