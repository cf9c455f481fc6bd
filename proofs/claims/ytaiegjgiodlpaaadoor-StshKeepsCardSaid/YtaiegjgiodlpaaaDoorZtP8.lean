/- A part of the proof of StshKeeps: walks of the functions that it reaches. No condition. -/
import Derived.Test.YtaiegjgiodlpaaaDoorZtP7
import Derived.Test.YtaiegjgiodlpaaaDoorZtP3
import Derived.Test.YtaiegjgiodlpaaaDoorZmP2
import Derived.Test.YtaiegjgiodlpaaaDoorZmAuto
namespace Go.Proofs.ZtLe
open Go.RowKit Go.Proofs Go.Proofs.Zm
set_option linter.unusedVariables false
set_option linter.unusedSimpArgs false
set_option maxHeartbeats 20000000
set_option maxRecDepth 100000
attribute [local irreducible] ZWp ZOps ZPure ZPure0 ZVal ZOp SoundF

/-! ### dumbwaiterlaw15: awake -/
theorem sortI_eq {l m : List Int} (hp : l.Perm m) (hs : m.Pairwise (fun a b => a ≤ b)) : sortI l = m := by
  unfold sortI
  rw [mergeSort_of_perm_i hp]
  refine List.mergeSort_of_pairwise (hs.imp fun {a b} h => ?_)
  simpa [leI] using h
theorem IsStsh.set {st : St} {s id : Nat} {v : StshV} (h : IsStsh st s id v) (cs : List CellV) : IsStsh (st.setN id (some (mapI .i64 (stD cs)))) s id ⟨v.most, v.size, cs⟩ := ⟨h.h, setN_self _ _ _⟩
def awC : List CellV := [(7, 3, [100]), (3, 0, [98])]
theorem aw_ok (cs : List CellV) (h : cs.length ≤ 2) (h1 : cs.all (fun c => okC c 1) = true) (h2 : cs.Pairwise (fun a b => a.1 ≠ b.1)) : StOk ⟨2, 1, cs⟩ := ⟨(by decide : (0 : Int) ≤ 2), (by decide : (2 : Int) ≤ 10000), (by decide : (0 : Int) ≤ 1), (by decide : (1 : Int) ≤ 60000), by show (cs.length : Int) ≤ 2; omega, List.all_eq_true.1 h1, h2⟩
theorem aw_ev : evOut 4 2 1 4 awC = ([(7, 3, [100])], [(3, 0, [98])]) := by
  have h : sortI (awC.map (·.1)) = [3, 7] := sortI_eq (by decide) (by decide)
  unfold evOut
  rw [h]
  decide +kernel
theorem aw_st : stB ⟨2, 1, [(3, 0, [98])]⟩ = [1, 0, 0, 0, 3, 0, 0, 0, 0, 0, 0, 0, 98] ++ List.replicate 9 0 := by
  have h : sortI (([(3, 0, [98])] : List CellV).map (·.1)) = [3] := sortI_eq (by decide) (by decide)
  unfold stB stHead sortC
  simp only
  rw [h]
  decide +kernel
theorem aw_ids : sortI (([(3, 0, [98])] : List CellV).map (·.1)) = [3] := sortI_eq (by decide) (by decide)
theorem awake15_snd : SoundF Tryd.prog 11 fun args st K => args = [] ∧ K (.v (.bool true)) st := by
  refine sound_ofA Tryd.func11 rfl Tryd.results11 ?_
  rintro w0 args st K ⟨rfl, hK⟩
  rw [Tryd.ntmps11]; refine ⟨by simp, ?_⟩
  have hS := Sep.nil st
  (repeat (first | ((with_reducible apply zr_seq)) | ((with_reducible apply zr_region); (try simp only [List.append_eq, List.cons_append, List.nil_append])) | ((with_reducible apply zo_end)) | ((with_reducible apply zs_assign); (exact rfl); (exact rfl)) | ((with_reducible apply zs_call snew_snd cl_6); (exact rfl); (exact rfl); ((try simp only [List.append_nil]); first | exact Ups.nilrow 1 (Ups.nilrow 1 (Ups.nilrow 1 (Ups.refl _))) | exact Ups.nilrow 1 (Ups.nilrow 1 (Ups.refl _)) | exact Ups.same (Ups.nilrow 1 (Ups.nilrow 1 (Ups.refl _))) | exact Ups.nilrow 1 (Ups.same (Ups.nilrow 1 (Ups.refl _))) | exact Ups.nilrow 1 (Ups.refl _) | exact Ups.same (Ups.nilrow 1 (Ups.refl _)) | exact Ups.same (Ups.same (Ups.nilrow 1 (Ups.refl _))) | exact Ups.refl _))))
  refine ⟨_, _, rfl, fun s id s1 hE hs hn hI => ?_⟩
  (repeat (first | ((with_reducible apply zr_seq)) | ((with_reducible apply zr_region); (try simp only [List.append_eq, List.cons_append, List.nil_append])) | ((with_reducible apply zo_end)) | ((with_reducible apply zs_move); (exact rfl); (exact rfl)) | ((with_reducible apply zs_assign); (exact rfl); (exact rfl)) | ((with_reducible apply zr_cond_f); (exact rfl); (first | assumption | exact rfl)) | ((with_reducible apply zr_skip')) | ((with_reducible apply zs_peq_ptr); (exact rfl); (exact rfl); (exact un_ptr rfl))))
  rw [show (min (max (2 : Int) 0) 10000) = 2 from rfl, show (min (max (1 : Int) 0) 60000) = 1 from rfl] at hI
  (try ((with_reducible apply zs_yes); exact rfl; exact rfl; (first | assumption | exact rfl))); refine zo_val rfl rfl (by decide) (zv_buildSlice (xs := [.const (.int .u8 97)]) rfl rfl el_U8 zq16 rfl (by simp [cellsD, oneD, Value.oneCell']) (by decide) fun tq htq htq0 => ?_); (try ((with_reducible apply zs_yes); exact rfl; exact rfl; (first | assumption | exact rfl))); refine zo_val rfl rfl (by decide) (zv_conv_bytes rfl zq16 Tryd.underlying5 rfl (by simp) (by decide) (by simp) ?_); rw [St.setT_back htq]
  (repeat (first | ((with_reducible apply zs_build); (exact rfl); (exact el_of rfl); (exact st_of rfl); (exact rfl); (first | (simp only [fillD, cellsD, cells_orow, List.take_zero, List.take_succ_cons, List.take_nil, List.drop_succ_cons, List.drop_zero, List.drop_nil, List.nil_append, List.cons_append, List.append_nil, Nat.zero_add, Nat.reduceAdd, List.length_cons, List.length_nil]; exact rfl) | ((repeat (apply fillD_cons; exact rfl; (first | exact rfl | simp [cells_orow]); (exact Nat.le_of_ble_eq_true rfl); (simp only [cells_orow, cD_int, cD_bool, cD_float, cD_nil, cD_ptr0, cD_str, cD_row, cD_mrow, cD_ptr, cD_ref, cD_fn, cD_agg, List.take_zero, List.take_succ_cons, List.take_nil, List.drop_succ_cons, List.drop_zero, List.drop_nil, List.nil_append, List.cons_append, List.append_nil, Nat.zero_add, Nat.reduceAdd]; exact rfl))); exact rfl) | exact rfl)) | ((with_reducible apply zs_call sput_snd cl_8); (exact rfl); (exact rfl); ((try simp only [List.append_nil]); first | exact Ups.nilrow 1 (Ups.nilrow 1 (Ups.nilrow 1 (Ups.refl _))) | exact Ups.nilrow 1 (Ups.nilrow 1 (Ups.refl _)) | exact Ups.same (Ups.nilrow 1 (Ups.nilrow 1 (Ups.refl _))) | exact Ups.nilrow 1 (Ups.same (Ups.nilrow 1 (Ups.refl _))) | exact Ups.nilrow 1 (Ups.refl _) | exact Ups.same (Ups.nilrow 1 (Ups.refl _)) | exact Ups.same (Ups.same (Ups.nilrow 1 (Ups.refl _))) | exact Ups.refl _))))
  refine ⟨s, id, ⟨2, 1, []⟩, (7, 2, [97]), rfl, hI, aw_ok _ (by decide) (by decide) (by decide), ?_⟩
  rw [show sputB ⟨2, 1, []⟩ (7, 2, [97]) = true by decide, if_pos rfl, show setC (StshV.mk 2 1 []).cs (7, 2, [97]) = [(7, 2, [97])] by decide]
  replace hI : IsStsh _ s id ⟨2, 1, [(7, 2, [97])]⟩ := hI.set [(7, 2, [97])]
  replace hE := hE.setNew hn (some (mapI .i64 (stD [(7, 2, [97])])))
  generalize hs2 : St.setN _ id (some (mapI .i64 (stD [(7, 2, [97])]))) = s2 at *
  clear hs2
  (repeat (first | ((with_reducible apply zr_seq)) | ((with_reducible apply zr_region); (try simp only [List.append_eq, List.cons_append, List.nil_append])) | ((with_reducible apply zo_end)) | ((with_reducible apply zs_move); (exact rfl); (exact rfl)) | ((with_reducible apply zs_assign); (exact rfl); (exact rfl))))
  (try ((with_reducible apply zs_yes); exact rfl; exact rfl; (first | assumption | exact rfl))); refine zo_val rfl rfl (by decide) (zv_buildSlice (xs := [.const (.int .u8 98)]) rfl rfl el_U8 zq16 rfl (by simp [cellsD, oneD, Value.oneCell']) (by decide) fun tq htq htq0 => ?_); (try ((with_reducible apply zs_yes); exact rfl; exact rfl; (first | assumption | exact rfl))); refine zo_val rfl rfl (by decide) (zv_conv_bytes rfl zq16 Tryd.underlying5 rfl (by simp) (by decide) (by simp) ?_); rw [St.setT_back htq]
  (repeat (first | ((with_reducible apply zs_build); (exact rfl); (exact el_of rfl); (exact st_of rfl); (exact rfl); (first | (simp only [fillD, cellsD, cells_orow, List.take_zero, List.take_succ_cons, List.take_nil, List.drop_succ_cons, List.drop_zero, List.drop_nil, List.nil_append, List.cons_append, List.append_nil, Nat.zero_add, Nat.reduceAdd, List.length_cons, List.length_nil]; exact rfl) | ((repeat (apply fillD_cons; exact rfl; (first | exact rfl | simp [cells_orow]); (exact Nat.le_of_ble_eq_true rfl); (simp only [cells_orow, cD_int, cD_bool, cD_float, cD_nil, cD_ptr0, cD_str, cD_row, cD_mrow, cD_ptr, cD_ref, cD_fn, cD_agg, List.take_zero, List.take_succ_cons, List.take_nil, List.drop_succ_cons, List.drop_zero, List.drop_nil, List.nil_append, List.cons_append, List.append_nil, Nat.zero_add, Nat.reduceAdd]; exact rfl))); exact rfl) | exact rfl)) | ((with_reducible apply zs_call sput_snd cl_8); (exact rfl); (exact rfl); ((try simp only [List.append_nil]); first | exact Ups.nilrow 1 (Ups.nilrow 1 (Ups.nilrow 1 (Ups.refl _))) | exact Ups.nilrow 1 (Ups.nilrow 1 (Ups.refl _)) | exact Ups.same (Ups.nilrow 1 (Ups.nilrow 1 (Ups.refl _))) | exact Ups.nilrow 1 (Ups.same (Ups.nilrow 1 (Ups.refl _))) | exact Ups.nilrow 1 (Ups.refl _) | exact Ups.same (Ups.nilrow 1 (Ups.refl _)) | exact Ups.same (Ups.same (Ups.nilrow 1 (Ups.refl _))) | exact Ups.refl _))))
  refine ⟨s, id, ⟨2, 1, [(7, 2, [97])]⟩, (3, 0, [98]), rfl, hI, aw_ok _ (by decide) (by decide) (by decide), ?_⟩
  rw [show sputB ⟨2, 1, [(7, 2, [97])]⟩ (3, 0, [98]) = true by decide, if_pos rfl, show setC (StshV.mk 2 1 [(7, 2, [97])]).cs (3, 0, [98]) = [(7, 2, [97]), (3, 0, [98])] by decide]
  replace hI : IsStsh _ s id ⟨2, 1, [(7, 2, [97]), (3, 0, [98])]⟩ := hI.set [(7, 2, [97]), (3, 0, [98])]
  replace hE := hE.setNew hn (some (mapI .i64 (stD [(7, 2, [97]), (3, 0, [98])])))
  generalize hs2 : St.setN _ id (some (mapI .i64 (stD [(7, 2, [97]), (3, 0, [98])]))) = s2 at *
  clear hs2
  (repeat (first | ((with_reducible apply zr_seq)) | ((with_reducible apply zr_region); (try simp only [List.append_eq, List.cons_append, List.nil_append])) | ((with_reducible apply zo_end)) | ((with_reducible apply zs_move); (exact rfl); (exact rfl)) | ((with_reducible apply zs_assign); (exact rfl); (exact rfl))))
  (try ((with_reducible apply zs_yes); exact rfl; exact rfl; (first | assumption | exact rfl))); refine zo_val rfl rfl (by decide) (zv_buildSlice (xs := [.const (.int .u8 99)]) rfl rfl el_U8 zq16 rfl (by simp [cellsD, oneD, Value.oneCell']) (by decide) fun tq htq htq0 => ?_); (try ((with_reducible apply zs_yes); exact rfl; exact rfl; (first | assumption | exact rfl))); refine zo_val rfl rfl (by decide) (zv_conv_bytes rfl zq16 Tryd.underlying5 rfl (by simp) (by decide) (by simp) ?_); rw [St.setT_back htq]
  (repeat (first | ((with_reducible apply zs_build); (exact rfl); (exact el_of rfl); (exact st_of rfl); (exact rfl); (first | (simp only [fillD, cellsD, cells_orow, List.take_zero, List.take_succ_cons, List.take_nil, List.drop_succ_cons, List.drop_zero, List.drop_nil, List.nil_append, List.cons_append, List.append_nil, Nat.zero_add, Nat.reduceAdd, List.length_cons, List.length_nil]; exact rfl) | ((repeat (apply fillD_cons; exact rfl; (first | exact rfl | simp [cells_orow]); (exact Nat.le_of_ble_eq_true rfl); (simp only [cells_orow, cD_int, cD_bool, cD_float, cD_nil, cD_ptr0, cD_str, cD_row, cD_mrow, cD_ptr, cD_ref, cD_fn, cD_agg, List.take_zero, List.take_succ_cons, List.take_nil, List.drop_succ_cons, List.drop_zero, List.drop_nil, List.nil_append, List.cons_append, List.append_nil, Nat.zero_add, Nat.reduceAdd]; exact rfl))); exact rfl) | exact rfl)) | ((with_reducible apply zs_call sput_snd cl_8); (exact rfl); (exact rfl); ((try simp only [List.append_nil]); first | exact Ups.nilrow 1 (Ups.nilrow 1 (Ups.nilrow 1 (Ups.refl _))) | exact Ups.nilrow 1 (Ups.nilrow 1 (Ups.refl _)) | exact Ups.same (Ups.nilrow 1 (Ups.nilrow 1 (Ups.refl _))) | exact Ups.nilrow 1 (Ups.same (Ups.nilrow 1 (Ups.refl _))) | exact Ups.nilrow 1 (Ups.refl _) | exact Ups.same (Ups.nilrow 1 (Ups.refl _)) | exact Ups.same (Ups.same (Ups.nilrow 1 (Ups.refl _))) | exact Ups.refl _))))
  refine ⟨s, id, ⟨2, 1, [(7, 2, [97]), (3, 0, [98])]⟩, (5, 0, [99]), rfl, hI, aw_ok _ (by decide) (by decide) (by decide), ?_⟩
  rw [show sputB ⟨2, 1, [(7, 2, [97]), (3, 0, [98])]⟩ (5, 0, [99]) = false by decide, if_neg Bool.false_ne_true]
  (repeat (first | ((with_reducible apply zr_seq)) | ((with_reducible apply zr_region); (try simp only [List.append_eq, List.cons_append, List.nil_append])) | ((with_reducible apply zo_end)) | ((with_reducible apply zs_move); (exact rfl); (exact rfl)) | ((with_reducible apply zs_assign); (exact rfl); (exact rfl))))
  (try ((with_reducible apply zs_yes); exact rfl; exact rfl; (first | assumption | exact rfl))); refine zo_val rfl rfl (by decide) (zv_buildSlice (xs := [.const (.int .u8 100)]) rfl rfl el_U8 zq16 rfl (by simp [cellsD, oneD, Value.oneCell']) (by decide) fun tq htq htq0 => ?_); (try ((with_reducible apply zs_yes); exact rfl; exact rfl; (first | assumption | exact rfl))); refine zo_val rfl rfl (by decide) (zv_conv_bytes rfl zq16 Tryd.underlying5 rfl (by simp) (by decide) (by simp) ?_); rw [St.setT_back htq]
  (repeat (first | ((with_reducible apply zs_build); (exact rfl); (exact el_of rfl); (exact st_of rfl); (exact rfl); (first | (simp only [fillD, cellsD, cells_orow, List.take_zero, List.take_succ_cons, List.take_nil, List.drop_succ_cons, List.drop_zero, List.drop_nil, List.nil_append, List.cons_append, List.append_nil, Nat.zero_add, Nat.reduceAdd, List.length_cons, List.length_nil]; exact rfl) | ((repeat (apply fillD_cons; exact rfl; (first | exact rfl | simp [cells_orow]); (exact Nat.le_of_ble_eq_true rfl); (simp only [cells_orow, cD_int, cD_bool, cD_float, cD_nil, cD_ptr0, cD_str, cD_row, cD_mrow, cD_ptr, cD_ref, cD_fn, cD_agg, List.take_zero, List.take_succ_cons, List.take_nil, List.drop_succ_cons, List.drop_zero, List.drop_nil, List.nil_append, List.cons_append, List.append_nil, Nat.zero_add, Nat.reduceAdd]; exact rfl))); exact rfl) | exact rfl)) | ((with_reducible apply zs_call sput_snd cl_8); (exact rfl); (exact rfl); ((try simp only [List.append_nil]); first | exact Ups.nilrow 1 (Ups.nilrow 1 (Ups.nilrow 1 (Ups.refl _))) | exact Ups.nilrow 1 (Ups.nilrow 1 (Ups.refl _)) | exact Ups.same (Ups.nilrow 1 (Ups.nilrow 1 (Ups.refl _))) | exact Ups.nilrow 1 (Ups.same (Ups.nilrow 1 (Ups.refl _))) | exact Ups.nilrow 1 (Ups.refl _) | exact Ups.same (Ups.nilrow 1 (Ups.refl _)) | exact Ups.same (Ups.same (Ups.nilrow 1 (Ups.refl _))) | exact Ups.refl _))))
  refine ⟨s, id, ⟨2, 1, [(7, 2, [97]), (3, 0, [98])]⟩, (7, 3, [100]), rfl, hI, aw_ok _ (by decide) (by decide) (by decide), ?_⟩
  rw [show sputB ⟨2, 1, [(7, 2, [97]), (3, 0, [98])]⟩ (7, 3, [100]) = true by decide, if_pos rfl, show setC (StshV.mk 2 1 [(7, 2, [97]), (3, 0, [98])]).cs (7, 3, [100]) = awC by decide]
  replace hI : IsStsh _ s id ⟨2, 1, awC⟩ := hI.set awC
  replace hE := hE.setNew hn (some (mapI .i64 (stD awC)))
  generalize hs2 : St.setN _ id (some (mapI .i64 (stD awC))) = s2 at *
  clear hs2
  (repeat (first | ((with_reducible apply zr_seq)) | ((with_reducible apply zr_region); (try simp only [List.append_eq, List.cons_append, List.nil_append])) | ((with_reducible apply zo_end)) | ((with_reducible apply zs_move); (exact rfl); (exact rfl)) | ((with_reducible apply zs_assign); (exact rfl); (exact rfl)) | ((with_reducible apply zs_call evict_snd cl_14); (exact rfl); (exact rfl); ((try simp only [List.append_nil]); first | exact Ups.nilrow 1 (Ups.nilrow 1 (Ups.nilrow 1 (Ups.refl _))) | exact Ups.nilrow 1 (Ups.nilrow 1 (Ups.refl _)) | exact Ups.same (Ups.nilrow 1 (Ups.nilrow 1 (Ups.refl _))) | exact Ups.nilrow 1 (Ups.same (Ups.nilrow 1 (Ups.refl _))) | exact Ups.nilrow 1 (Ups.refl _) | exact Ups.same (Ups.nilrow 1 (Ups.refl _)) | exact Ups.same (Ups.same (Ups.nilrow 1 (Ups.refl _))) | exact Ups.refl _))))
  refine ⟨s, id, ⟨2, 1, awC⟩, 4, 2, 1, 4, rfl, hI, aw_ok _ (by decide) (by decide) (by decide), ?_⟩
  rw [show evOut 4 2 1 4 (StshV.mk 2 1 awC).cs = _ from aw_ev]
  replace hI : IsStsh _ s id ⟨2, 1, [(3, 0, [98])]⟩ := hI.set [(3, 0, [98])]
  replace hE := hE.setNew hn (some (mapI .i64 (stD [(3, 0, [98])])))
  refine (show ZOps _ _ _ _ _ _ _ _ from ?_)
  generalize hs2 : St.setN _ id (some (mapI .i64 (stD [(3, 0, [98])]))) = s2 at *
  clear hs2
  (repeat (first | ((with_reducible apply zr_seq)) | ((with_reducible apply zr_region); (try simp only [List.append_eq, List.cons_append, List.nil_append])) | ((with_reducible apply zo_end)) | ((with_reducible apply zs_move); (exact rfl); (exact rfl)) | ((with_reducible apply zs_assign); (exact rfl); (exact rfl)) | ((with_reducible apply zs_call sstate_snd cl_10); (exact rfl); (exact rfl); ((try simp only [List.append_nil]); first | exact Ups.nilrow 1 (Ups.nilrow 1 (Ups.nilrow 1 (Ups.refl _))) | exact Ups.nilrow 1 (Ups.nilrow 1 (Ups.refl _)) | exact Ups.same (Ups.nilrow 1 (Ups.nilrow 1 (Ups.refl _))) | exact Ups.nilrow 1 (Ups.same (Ups.nilrow 1 (Ups.refl _))) | exact Ups.nilrow 1 (Ups.refl _) | exact Ups.same (Ups.nilrow 1 (Ups.refl _)) | exact Ups.same (Ups.same (Ups.nilrow 1 (Ups.refl _))) | exact Ups.refl _))))
  refine ⟨s, id, ⟨2, 1, [(3, 0, [98])]⟩, rfl, hI, aw_ok _ (by decide) (by decide) (by decide), ?_⟩
  rw [aw_st]
  (repeat (first | ((with_reducible apply zr_seq)) | ((with_reducible apply zo_end)) | ((with_reducible apply zs_assign); (exact rfl); (exact rfl))))
  have hH2 := hI.h
  refine zc_begin (m := 50) ([(s, [.v (.int .i64 2), .v (.int .i64 1), .mp id])]) [] zq18 rfl ?_
  refine zc_take0 (i := 0) rfl zq18 zq18 zq18 zq18 zq12 rfl rfl (ZPure0.pure (zp_move rfl rfl)) ?_
  refine zc_take0 (i := 1) rfl zq18 zq18 zq18 zq18 zq12 rfl rfl (ZPure0.pure (zp_move rfl rfl)) ?_
  refine zc_take0 (i := 2) rfl zq18 zq18 zq18 zq18 zq12 rfl rfl (ZPure0.pure (zp_move rfl rfl)) ?_
  refine zc_take0 (i := 3) rfl zq18 zq18 zq18 zq18 zq12 rfl rfl zq6 ?_
  refine zc_take0 (i := 4) rfl zq18 zq18 zq18 zq18 zq12 rfl rfl (ZPure0.pure (zp_move rfl rfl)) ?_
  refine zc_take0 (i := 5) rfl zq18 zq18 zq18 zq18 zq12 rfl rfl (ZPure0.pure (zp_move rfl rfl)) ?_
  refine zc_take0 (i := 6) rfl zq18 zq18 zq18 zq18 zq12 rfl rfl (ZPure0.pure (zp_not rfl rfl)) ?_
  refine zc_take0 (i := 7) rfl zq18 zq18 zq18 zq18 zq12 rfl rfl zq6 ?_
  refine zc_take0 (i := 8) rfl zq18 zq18 zq18 zq18 zq12 rfl rfl (ZPure0.pure (zp_move rfl rfl)) ?_
  refine zc_take0 (i := 9) rfl zq18 zq18 zq18 zq18 zq12 rfl rfl (ZPure0.pure (zp_move rfl rfl)) ?_
  refine zc_take0 (i := 10) rfl zq18 zq18 zq18 zq18 zq12 rfl rfl zq6 ?_
  refine zc_take0 (i := 11) rfl zq18 zq18 zq18 zq18 zq12 rfl rfl (ZPure0.pure (zp_move rfl rfl)) ?_
  refine zc_take0 (i := 12) rfl zq18 zq18 zq18 zq18 zq12 rfl rfl (ZPure0.pure (zp_move rfl rfl)) ?_
  refine zc_take0 (i := 13) rfl zq18 zq18 zq18 zq18 zq12 rfl rfl (by first | exact (zp_lenB rfl zq16 rfl).pure | exact (zp_len rfl zq16 rfl).pure | exact (zp_len_nil rfl zq16 rfl).pure | exact (zp_len_orow rfl rfl zq16 (by exact GRow.nil0 zq17)).pure) ?_
  refine zc_take0 (i := 14) rfl zq18 zq18 zq18 zq18 zq12 rfl rfl (ZPure0.pure (zp_eql rfl rfl rfl)) ?_
  refine zc_take0 (i := 15) rfl zq18 zq18 zq18 zq18 zq12 rfl rfl zq6 ?_
  refine zc_take0 (i := 16) rfl zq18 zq18 zq18 zq18 zq12 rfl rfl (ZPure0.pure (zp_move rfl rfl)) ?_
  refine zc_take0 (i := 17) rfl zq18 zq18 zq18 zq18 zq12 rfl rfl (ZPure0.pure (zp_move rfl rfl)) ?_
  refine zc_take0 (i := 18) rfl zq18 zq18 zq18 zq18 zq12 rfl rfl zq0 ?_
  refine zc_take0 (i := 19) rfl zq18 zq18 zq18 zq18 zq12 rfl rfl zq7 ?_
  refine zc_take0 (i := 20) rfl zq18 zq18 zq18 zq18 zq12 rfl rfl (zp_load_ref rfl zq15 rfl rfl) ?_
  refine zc_take0 (i := 21) rfl zq18 zq18 zq18 zq18 zq12 rfl rfl (ZPure0.pure (zp_eql rfl rfl rfl)) ?_
  refine zc_take0 (i := 22) rfl zq18 zq18 zq18 zq18 zq12 rfl rfl zq6 ?_
  refine zc_take0 (i := 23) rfl zq18 zq18 zq18 zq18 zq12 rfl rfl (ZPure0.pure (zp_move rfl rfl)) ?_
  refine zc_take0 (i := 24) rfl zq18 zq18 zq18 zq18 zq12 rfl rfl (ZPure0.pure (zp_move rfl rfl)) ?_
  refine zc_take0 (i := 25) rfl zq18 zq18 zq18 zq18 zq12 rfl rfl zq0 ?_
  refine zc_take0 (i := 26) rfl zq18 zq18 zq18 zq18 zq12 rfl rfl zq7 ?_
  refine zc_take0 (i := 27) rfl zq18 zq18 zq18 zq18 zq12 rfl rfl (zp_load_ref rfl zq15 rfl rfl) ?_
  refine zc_take0 (i := 28) rfl zq18 zq18 zq18 zq18 zq12 rfl rfl (ZPure0.pure (zp_eql rfl rfl rfl)) ?_
  refine zc_take0 (i := 29) rfl zq18 zq18 zq18 zq18 zq12 rfl rfl zq6 ?_
  refine zc_take0 (i := 30) rfl zq18 zq18 zq18 zq18 zq12 rfl rfl (ZPure0.pure (zp_move rfl rfl)) ?_
  refine zc_take0 (i := 31) rfl zq18 zq18 zq18 zq18 zq12 rfl rfl (ZPure0.pure (zp_move rfl rfl)) ?_
  skip
  refine zc_one (i := 32) (fun _ => by first | assumption | (repeat (first | exact BOwn.nil _ | refine BOwn.cons zq3 ?_))) zq18 rfl zq12 (zop_callU slen_snd Tryd.func9 zq18 rfl rfl rfl (by decide) rfl rfl (Ups.refl _) ?_)
  refine ⟨s, id, ⟨2, 1, [(3, 0, [98])]⟩, rfl, hI, ?_⟩
  refine zc_take0 (i := 33) rfl zq18 zq18 zq18 zq18 zq12 rfl rfl (ZPure0.pure (zp_eql rfl rfl rfl)) ?_
  refine zc_take0 (i := 34) rfl zq18 zq18 zq18 zq18 zq12 rfl rfl zq6 ?_
  refine zc_take0 (i := 35) rfl zq18 zq18 zq18 zq18 zq12 rfl rfl (ZPure0.pure (zp_move rfl rfl)) ?_
  refine zc_take0 (i := 36) rfl zq18 zq18 zq18 zq18 zq12 rfl rfl (ZPure0.pure (zp_move rfl rfl)) ?_
  skip
  refine zc_all2 (i := 37) (j := 38) (fun _ => by first | assumption | (repeat (first | exact BOwn.nil _ | refine BOwn.cons zq3 ?_))) zq18 ?_ ?_
  · refine zoneC_op (i := 37) (fun _ => by first | assumption | (repeat (first | exact BOwn.nil _ | refine BOwn.cons zq3 ?_))) rfl zq12 ?_
    refine zop_callU ids_snd Tryd.func16 zq18 rfl rfl rfl (by decide) rfl rfl (Ups.refl _) ?_
    refine ⟨s, id, ⟨2, 1, [(3, 0, [98])]⟩, rfl, hI, aw_ok _ (by decide) (by decide) (by decide), ?_⟩
    rw [aw_ids]
    refine (show ZC _ _ _ _ _ _ _ _ _ _ _ from ?_)
    skip
    refine zc_one_val (i := 38) (fun _ => by first | assumption | (repeat (first | exact BOwn.nil _ | refine BOwn.cons zq3 ?_))) zq18 rfl zq12 rfl rfl (zv_litR (xs := [.const (.int .i64 3)]) (intR [3]) rfl rfl rfl zq16 (by exact el_of rfl) rfl (by decide) (by decide) ?_)
    skip
    refine zc_one (i := 39) (fun _ => by first | assumption | (repeat (first | exact BOwn.nil _ | refine BOwn.cons zq3 ?_))) zq18 rfl zq12 (zop_callQ sameI_pf cl_23 rfl rfl (by decide) rfl rfl zq9 ?_ ?_)
    · decide
    refine zc_take0 (i := 40) rfl zq18 zq18 zq18 zq18 zq12 rfl rfl zq6 ?_
    refine zc_take0 (i := 41) rfl zq18 zq18 zq18 zq18 zq12 rfl rfl (ZPure0.pure (zp_move rfl rfl)) ?_
    refine zc_take0 (i := 42) rfl zq18 zq18 zq18 zq18 zq12 rfl rfl (ZPure0.pure (zp_move rfl rfl)) ?_
    refine zc_take0 (i := 43) rfl zq18 zq18 zq18 zq18 zq12 rfl rfl (zp_toStr rfl zq16 Tryd.underlying5 Tryd.underlying9 rfl) ?_
    skip
    refine zc_one_val (i := 44) (fun _ => by first | assumption | (repeat (first | exact BOwn.nil _ | refine BOwn.cons zq3 ?_))) zq18 rfl zq12 rfl rfl (zv_make0 (e := 5) rfl (by exact el_of rfl) (by simp [oneD, Value.oneCell']) zq16 rfl rfl (by omega) (by omega) (by omega) ?_)
    rw [zeros, show Int.toNat 9 = 9 from rfl]
    refine zc_take0 (i := 45) rfl zq18 zq18 zq18 zq18 zq12 rfl rfl (zp_toStr rfl zq16 Tryd.underlying5 Tryd.underlying9 rfl) ?_
    skip
    refine zc_take0 (i := 46) rfl zq18 zq18 zq18 zq18 zq12 rfl rfl (ZPure0.pure (zp_strcat (l := [1, 0, 0, 0, 3, 0, 0, 0, 0, 0, 0, 0, 98]) (m := List.replicate 9 0) rfl rfl rfl (by decide))) ?_
    refine zc_take0 (i := 47) rfl zq18 zq18 zq18 zq18 zq12 rfl rfl (ZPure0.pure (zp_streq (l := [1, 0, 0, 0, 3, 0, 0, 0, 0, 0, 0, 0, 98] ++ List.replicate 9 0) (m := [1, 0, 0, 0, 3, 0, 0, 0, 0, 0, 0, 0, 98] ++ List.replicate 9 0) (r := true) rfl rfl rfl (.inl ⟨rfl, by decide +kernel⟩))) ?_
    refine zc_take0 (i := 48) rfl zq18 zq18 zq18 zq18 zq12 rfl rfl zq6 ?_
    refine zc_take0 (i := 49) rfl zq18 zq18 zq18 zq18 zq12 rfl rfl (ZPure0.pure (zp_assign rfl rfl)) ?_
    refine zc_end (fun _ => by first | assumption | (repeat (first | exact BOwn.nil _ | refine BOwn.cons zq3 ?_))) zq18 ?_
    (repeat (first | ((with_reducible apply zr_retZ); (exact rfl); (repeat (first | exact resD_nil _ _ _ | ((with_reducible apply resD_tmp); (exact rfl)) | ((with_reducible apply resD_cell_agg); (exact rfl); (exact sh_of rfl); (first | assumption | exact St.setH_self _ _ _ | exact Sep.at_ (i := 0) zq17 rfl | exact Sep.at_ (i := 1) zq17 rfl | exact Sep.at_ (i := 2) zq17 rfl | exact Sep.at_ (i := 3) zq17 rfl | exact Sep.at_ (i := 4) zq17 rfl | exact Sep.at_ (i := 5) zq17 rfl | exact Sep.at_ (i := 6) zq17 rfl); (exact rfl)) | ((with_reducible apply resD_cell); (exact rfl); (exact sh_of rfl); (first | assumption | exact St.setH_self _ _ _ | exact Sep.at_ (i := 0) zq17 rfl | exact Sep.at_ (i := 1) zq17 rfl | exact Sep.at_ (i := 2) zq17 rfl | exact Sep.at_ (i := 3) zq17 rfl | exact Sep.at_ (i := 4) zq17 rfl | exact Sep.at_ (i := 5) zq17 rfl | exact Sep.at_ (i := 6) zq17 rfl); (exact rfl)))); (simp only [resOf]))))
    exact KE.mk st hE hK
  · refine zoneC_op (i := 38) (fun _ => by first | assumption | (repeat (first | exact BOwn.nil _ | refine BOwn.cons zq3 ?_))) rfl zq12 ?_
    refine ZVal.op rfl (by decide) (zv_litR (xs := [.const (.int .i64 3)]) (intR [3]) rfl rfl rfl zq16 (by exact el_of rfl) rfl (by decide) (by decide) ?_)
    skip
    refine zc_one (i := 37) (fun _ => by first | assumption | (repeat (first | exact BOwn.nil _ | refine BOwn.cons zq3 ?_))) zq18 rfl zq12 (zop_callU ids_snd Tryd.func16 zq18 rfl rfl rfl (by decide) rfl rfl (Ups.refl _) ?_)
    refine ⟨s, id, ⟨2, 1, [(3, 0, [98])]⟩, rfl, hI, aw_ok _ (by decide) (by decide) (by decide), ?_⟩
    rw [aw_ids]
    refine (show ZC _ _ _ _ _ _ _ _ _ _ _ from ?_)
    skip
    refine zc_one (i := 39) (fun _ => by first | assumption | (repeat (first | exact BOwn.nil _ | refine BOwn.cons zq3 ?_))) zq18 rfl zq12 (zop_callQ sameI_pf cl_23 rfl rfl (by decide) rfl rfl zq9 ?_ ?_)
    · decide
    refine zc_take0 (i := 40) rfl zq18 zq18 zq18 zq18 zq12 rfl rfl zq6 ?_
    refine zc_take0 (i := 41) rfl zq18 zq18 zq18 zq18 zq12 rfl rfl (ZPure0.pure (zp_move rfl rfl)) ?_
    refine zc_take0 (i := 42) rfl zq18 zq18 zq18 zq18 zq12 rfl rfl (ZPure0.pure (zp_move rfl rfl)) ?_
    refine zc_take0 (i := 43) rfl zq18 zq18 zq18 zq18 zq12 rfl rfl (zp_toStr rfl zq16 Tryd.underlying5 Tryd.underlying9 rfl) ?_
    skip
    refine zc_one_val (i := 44) (fun _ => by first | assumption | (repeat (first | exact BOwn.nil _ | refine BOwn.cons zq3 ?_))) zq18 rfl zq12 rfl rfl (zv_make0 (e := 5) rfl (by exact el_of rfl) (by simp [oneD, Value.oneCell']) zq16 rfl rfl (by omega) (by omega) (by omega) ?_)
    rw [zeros, show Int.toNat 9 = 9 from rfl]
    refine zc_take0 (i := 45) rfl zq18 zq18 zq18 zq18 zq12 rfl rfl (zp_toStr rfl zq16 Tryd.underlying5 Tryd.underlying9 rfl) ?_
    skip
    refine zc_take0 (i := 46) rfl zq18 zq18 zq18 zq18 zq12 rfl rfl (ZPure0.pure (zp_strcat (l := [1, 0, 0, 0, 3, 0, 0, 0, 0, 0, 0, 0, 98]) (m := List.replicate 9 0) rfl rfl rfl (by decide))) ?_
    refine zc_take0 (i := 47) rfl zq18 zq18 zq18 zq18 zq12 rfl rfl (ZPure0.pure (zp_streq (l := [1, 0, 0, 0, 3, 0, 0, 0, 0, 0, 0, 0, 98] ++ List.replicate 9 0) (m := [1, 0, 0, 0, 3, 0, 0, 0, 0, 0, 0, 0, 98] ++ List.replicate 9 0) (r := true) rfl rfl rfl (.inl ⟨rfl, by decide +kernel⟩))) ?_
    refine zc_take0 (i := 48) rfl zq18 zq18 zq18 zq18 zq12 rfl rfl zq6 ?_
    refine zc_take0 (i := 49) rfl zq18 zq18 zq18 zq18 zq12 rfl rfl (ZPure0.pure (zp_assign rfl rfl)) ?_
    refine zc_end (fun _ => by first | assumption | (repeat (first | exact BOwn.nil _ | refine BOwn.cons zq3 ?_))) zq18 ?_
    (repeat (first | ((with_reducible apply zr_retZ); (exact rfl); (repeat (first | exact resD_nil _ _ _ | ((with_reducible apply resD_tmp); (exact rfl)) | ((with_reducible apply resD_cell_agg); (exact rfl); (exact sh_of rfl); (first | assumption | exact St.setH_self _ _ _ | exact Sep.at_ (i := 0) zq17 rfl | exact Sep.at_ (i := 1) zq17 rfl | exact Sep.at_ (i := 2) zq17 rfl | exact Sep.at_ (i := 3) zq17 rfl | exact Sep.at_ (i := 4) zq17 rfl | exact Sep.at_ (i := 5) zq17 rfl | exact Sep.at_ (i := 6) zq17 rfl); (exact rfl)) | ((with_reducible apply resD_cell); (exact rfl); (exact sh_of rfl); (first | assumption | exact St.setH_self _ _ _ | exact Sep.at_ (i := 0) zq17 rfl | exact Sep.at_ (i := 1) zq17 rfl | exact Sep.at_ (i := 2) zq17 rfl | exact Sep.at_ (i := 3) zq17 rfl | exact Sep.at_ (i := 4) zq17 rfl | exact Sep.at_ (i := 5) zq17 rfl | exact Sep.at_ (i := 6) zq17 rfl); (exact rfl)))); (simp only [resOf]))))
    exact KE.mk st hE hK
end Go.Proofs.ZtLe
namespace Go.Proofs.ZtLe
open Go.RowKit Go.Proofs Go.Proofs.Zm
set_option linter.unusedVariables false
set_option linter.unusedSimpArgs false
set_option maxHeartbeats 20000000
set_option maxRecDepth 100000
attribute [local irreducible] ZWp ZOps ZPure ZPure0 ZVal ZOp SoundF

/-! ### StshRooms -/
def thD (cs : List CellV) : List (Int × D) := cs.map fun c => (c.1, .v (.bool true))
theorem lkI_thD (k : Int) : ∀ cs : List CellV, (lkI (thD cs) k).getD (.v (.bool false)) = .v (.bool (findC cs k).isSome)
  | [] => rfl
  | c :: r => by
    show ((if c.1 = k then some (D.v (.bool true)) else lkI (thD r) k).getD _) = _
    unfold findC
    split
    · rfl
    · exact lkI_thD k r
theorem delI_thD (k : Int) : ∀ cs : List CellV, delI (thD cs) k = thD (delC cs k)
  | [] => rfl
  | c :: r => by
    show (if c.1 = k then thD r else (c.1, D.v (.bool true)) :: delI (thD r) k) = _
    unfold delC
    split
    · rfl
    · rw [delI_thD k r]; rfl
theorem setI_thD (x : CellV) : ∀ cs : List CellV, setI (thD cs) x.1 (.v (.bool true)) = thD (setC cs x)
  | [] => rfl
  | c :: r => by
    show (if c.1 = x.1 then (c.1, D.v (.bool true)) :: thD r else (c.1, D.v (.bool true)) :: setI (thD r) x.1 (.v (.bool true))) = _
    unfold setC
    split
    · rename_i h; rw [h]; rfl
    · rw [setI_thD x r]; rfl
@[simp] theorem thD_len (cs : List CellV) : (thD cs).length = cs.length := by simp [thD]
theorem setC_mem {x : CellV} : ∀ {cs : List CellV} {c : CellV}, c ∈ setC cs x → c = x ∨ c ∈ cs
  | [], c, h => by
    rcases List.mem_cons.1 h with h | h
    · exact .inl h
    · cases h
  | d :: r, c, h => by
    unfold setC at h
    split at h
    · rcases List.mem_cons.1 h with h | h
      · exact .inl h
      · exact .inr (.tail _ h)
    · rcases List.mem_cons.1 h with h | h
      · exact .inr (by rw [h]; exact .head _)
      · rcases setC_mem h with h | h
        · exact .inl h
        · exact .inr (.tail _ h)
theorem setC_length {x : CellV} : ∀ cs : List CellV, (setC cs x).length = if (findC cs x.1).isSome then cs.length else cs.length + 1
  | [] => rfl
  | d :: r => by
    unfold setC findC
    split
    · rfl
    · simp only [List.length_cons]; rw [setC_length r]; split <;> rfl
theorem setC_nd {x : CellV} : ∀ {cs : List CellV}, cs.Pairwise (fun a b => a.1 ≠ b.1) → (setC cs x).Pairwise (fun a b => a.1 ≠ b.1)
  | [], _ => List.pairwise_singleton _ _
  | d :: r, h => by
    obtain ⟨h1, h2⟩ := List.pairwise_cons.1 h
    unfold setC
    split
    · rename_i e; exact List.pairwise_cons.2 ⟨fun c hc => by rw [← e]; exact h1 c hc, h2⟩
    · rename_i e
      refine List.pairwise_cons.2 ⟨fun c hc => ?_, setC_nd h2⟩
      rcases setC_mem hc with rfl | hc
      · exact e
      · exact h1 c hc
theorem StOk.put {v : StshV} (h : StOk v) {c : CellV} (hp : sputB v c = true) : StOk ⟨v.most, v.size, setC v.cs c⟩ := by
  unfold sputB at hp
  simp only [Bool.and_eq_true, Bool.or_eq_true, decide_eq_true_eq] at hp
  refine ⟨h.m0, h.m1, h.s0, h.s1, ?_, fun d hd => ?_, setC_nd h.nd⟩
  · show ((setC v.cs c).length : Int) ≤ v.most
    have := h.room
    rw [setC_length]
    split
    · omega
    · rename_i e
      rcases hp.2 with q | q
      · exact absurd q e
      · omega
  · rcases setC_mem hd with rfl | hd
    · exact hp.1
    · exact h.all d hd
theorem sput2_snd : SoundF Tryd.prog 8 fun args st K => ∃ (s id : Nat) (v : StshV) (c : CellV) (d : D), args = [.ptr s 0, d] ∧ DLe d (.agg (cellD c)) ∧ IsStsh st s id v ∧ StOk v ∧
    K (.v (.bool (sputB v c))) (if sputB v c then st.setN id (some (mapI .i64 (stD (setC v.cs c)))) else st) :=
  sput_snd.args.weaken fun args st K ⟨s, id, v, c, d, h1, h2, h3, h4, h5⟩ => ⟨_, by rw [h1]; exact .cons (.refl _) (.cons h2 .nil), s, id, v, c, rfl, h3, h4, h5⟩
theorem IsStsh.other {st : St} {s id i2 : Nat} {v : StshV} (h : IsStsh st s id v) (hne : i2 ≠ id) (x : Option (List (Value × D))) : IsStsh (st.setN i2 x) s id v := ⟨h.h, by show (if id = i2 then _ else _) = _; rw [if_neg (Ne.symm hne)]; exact h.n⟩
theorem sputB_no {v : StshV} {c : CellV} (h : okC c v.size = false) : sputB v c = false := by unfold sputB; rw [h]; rfl
def roomsSpec : ZSpec := fun args st K => ∃ (most : Int) (l : List Int) (tk : Nat), args = [.v (.int .i64 most), .row (intR l) 1 tk] ∧ l.length ≤ 4611686018427387904 ∧ K (.v (.bool true)) st
end Go.Proofs.ZtLe
namespace Go.Proofs.ZtLe
open Go.RowKit Go.Proofs Go.Proofs.Zm
set_option linter.unusedVariables false
set_option linter.unusedSimpArgs false
set_option maxHeartbeats 20000000
set_option maxRecDepth 100000
attribute [local irreducible] ZWp ZOps ZPure ZPure0 ZVal ZOp SoundF

/-! ### cells that may be, as an own row -/
def tameOwn : ZSpec := fun args st K => ∃ (l : List CellV) (tk : Nat) (k S : Nat), args = [.row (cellR l) 3 tk, .v (.int .i64 (k : Int)), .v (.int .i64 (S : Int))] ∧ l.length ≤ 4611686018427387904 ∧ k ≤ 1000 ∧ S ≤ 100000 ∧
  ∀ o c full st', Sep st st' [(o, full)] → GRow o full 3 (tame l k S).length c (cellR (tame l k S)).flatten → K (orow o (tame l k S).length c) st'
theorem tame_own : SoundF Tryd.prog 13 tameOwn := by
  refine sound_ofA Tryd.func13 rfl Tryd.results13 ?_
  rintro w0 args st K ⟨l, tk, k, S, rfl, hl, hk, hS0, hK⟩
  rw [Tryd.ntmps13]; refine ⟨by simp, ?_⟩
  (repeat (first | ((with_reducible apply zr_seq)) | ((with_reducible apply zr_region); (try simp only [List.append_eq, List.cons_append, List.nil_append])) | ((with_reducible apply zo_end)) | ((with_reducible apply zs_assign); (exact rfl); (exact rfl)) | ((with_reducible apply zr_block))))
  refine zr_snil 7 rfl ?_
  skip
  refine zr_loopK [0, 1, 2] (fun m e s => ∃ (i : Nat) (o : Option Nat) (c : Nat) (full : List D), m + i = l.length ∧ i ≤ k ∧ e = [(7, orow o i c), (8, .v (.int .i64 (i : Nat)))] ∧ Sep st s [(o, full)] ∧ GRow o full 3 i c (cellR ((l.take i).map (tameC S))).flatten) l.length _ zq8
    ⟨0, none, 0, [], by simp, by omega, rfl, (Sep.nil st).addNone [], GRow.empty 3⟩ zq10 ?_
  rintro m e s ⟨i, o, c, full, hm, hik, rfl, hS, hg⟩
  (repeat (first | ((with_reducible apply zr_seq)) | ((with_reducible apply zr_region); (try simp only [List.append_eq, List.cons_append, List.nil_append])) | ((with_reducible apply zo_end)) | ((with_reducible apply zs_move); (exact rfl); (exact rfl)) | ((with_reducible apply zs_lss); (exact rfl); (exact rfl); (exact rfl)) | ((with_reducible apply zs_len); (exact rfl); (exact rfl); (exact un_sl rfl)) | ((with_reducible apply zs_and); (exact rfl); (exact rfl); (intro hp_; first | exact congrArg some (gd_t hp_) | exact rfl); (exact rfl)) | ((with_reducible apply (zs_h_move [])); (exact rfl); (first | exact GC.t rfl rfl | exact GC.f rfl rfl | exact GC.gt rfl rfl | exact GC.gf rfl rfl); (exact rfl); (intro hc_; first | exact congrArg some (gd_t hc_) | exact congrArg some (gd_t (band_l hc_)) | exact congrArg some (gd_t (band_l (band_l hc_))) | exact rfl)) | ((with_reducible apply (zs_h_lss [])); (exact rfl); (first | exact GC.t rfl rfl | exact GC.f rfl rfl | exact GC.gt rfl rfl | exact GC.gf rfl rfl); (exact rfl); (intro hc_; first | exact congrArg some (gd_t hc_) | exact congrArg some (gd_t (band_l hc_)) | exact congrArg some (gd_t (band_l (band_l hc_))) | exact rfl); (intro hc_; first | exact congrArg some (gd_t hc_) | exact congrArg some (gd_t (band_l hc_)) | exact congrArg some (gd_t (band_l (band_l hc_))) | exact rfl))))
  (first | refine zr_cond rfl (fun h => ?_) (fun h => ?_) | refine zs_split rfl rfl (fun h => ?_) (fun h => ?_)) <;> have h' := h <;> (try simp only [decide_eq_true_eq, decide_eq_false_iff_not, Bool.and_eq_true, Bool.or_eq_true, Bool.and_eq_false_iff, Bool.or_eq_false_iff, Bool.not_eq_true', Bool.not_eq_false', Bool.not_eq_true, Bool.not_eq_false, Int.not_le, Int.not_lt, Classical.not_not, Decidable.not_not, ne_eq, beq_iff_eq, bne_iff_ne] at h')
  · simp only [cellR_length] at h'
    have hlt : i < l.length := by omega
    have hrl : (cellR l).length = l.length := cellR_length l
    have hcg := cellR_getD l i hlt
    have htt := tame_take l i S hlt
    generalize l.getD i zc = cv at *
    (repeat (first | ((with_reducible apply zr_seq)) | ((with_reducible apply zr_region); (try simp only [List.append_eq, List.cons_append, List.nil_append])) | ((with_reducible apply zs_move); (exact rfl); (exact rfl)) | ((with_reducible apply zr_block)) | ((with_reducible apply zr_skip'))))
    (try ((with_reducible apply zs_yes); exact rfl; exact rfl; (first | assumption | exact rfl))); refine zo_val rfl rfl (by decide) (zv_make_own rfl el_U8 (by simp [oneD, Value.oneCell']) zq16 rfl rfl (by omega) (by omega) (by omega) fun id hid => ?_)
    rw [Int.toNat_natCast, zeroB]
    (repeat (first | ((with_reducible apply zr_seq)) | ((with_reducible apply zr_region); (try simp only [List.append_eq, List.cons_append, List.nil_append])) | ((with_reducible apply zo_end)) | ((with_reducible apply zs_move); (exact rfl); (exact rfl)) | ((with_reducible apply zs_assign); (exact rfl); (exact rfl)) | ((with_reducible apply zs_field_ref); (exact rfl); (exact rfl); (exact fld_of rfl)) | ((with_reducible apply zs_load_ref); (exact rfl); (exact rfl); (exact sh_of rfl); (exact rfl)) | ((with_reducible apply zs_idxE); (exact rfl); (exact rfl); (exact rfl); (exact un_sl rfl); (exact ii_of rfl); (first | omega | (simp only [List.length_map, List.length_take, List.length_drop, List.length_append, List.length_cons, List.length_nil, List.length_replicate, rowR_length, intR_length, msgR_length, pairR_length, cellR_length]; omega) | decide); (first | omega | (simp only [List.length_map, List.length_take, List.length_drop, List.length_append, List.length_cons, List.length_nil, List.length_replicate, rowR_length, intR_length, msgR_length, pairR_length, cellR_length]; omega) | decide); (first | (with_reducible exact Int.toNat_natCast _) | (simp only [Int.reduceToNat]; exact rfl) | exact rfl); (assumption))))
    (try rw [hcg])
    skip
    (try ((with_reducible apply zs_yes); exact rfl; exact rfl; (first | assumption | exact rfl))); refine zo_val rfl rfl (by decide) (zv_copyB rfl zq16 zq18 rfl (St.setH_self _ _ _) (by rw [byteC_length]; simp) rfl ?_)
    rw [St.setH_setH]
    have hd : (byteC (List.replicate S (0 : UInt8))).take 0 ++ byteC (cv.2.2.take (min cv.2.2.length S)) ++ (byteC (List.replicate S (0 : UInt8))).drop (0 + min cv.2.2.length S) = byteC (tameC S cv).2.2 := by
      unfold tameC
      rw [List.take_zero, List.nil_append, byteC_append]
      congr 1
      · congr 1
        rcases Nat.le_total cv.2.2.length S with h | h
        · rw [Nat.min_eq_left h, List.take_of_length_le (Nat.le_refl _), List.take_of_length_le h]
        · rw [Nat.min_eq_right h]
      · simp only [byteC, List.map_replicate, List.drop_replicate]
        congr 1
        omega
    rw [hd]
    have hS1 := hS.alloc hid (byteC (tameC S cv).2.2)
    have hlen : (tameC S cv).2.2.length = S := by unfold tameC; simp; omega
    have hgb : GRow (some id) (byteC (tameC S cv).2.2) 1 S S (byteC (tameC S cv).2.2) := ⟨by rw [byteC_length, hlen, Nat.mul_one], Nat.le_refl _, fun e => (by cases e), by rw [Nat.mul_one, List.take_of_length_le (by rw [byteC_length, hlen]; exact Nat.le_refl _)]⟩
    refine zo_sfreeze 0 [0, 1, 2, 7, 8, 9] (bytesD (tameC S cv).2.2) (by decide) hS1 rfl hgb (bytesD_flat _) (bytesD_one _) (by (repeat (first | (with_reducible exact fzo_nil) | ((with_reducible apply fzo_row); (exact rfl)) | ((with_reducible apply fzo_same); (exact rfl)) | (with_reducible apply fzo_skip)))) fun s2 hS2 => ?_
    have hS2 : Sep st s2 [(o, full)] := hS2
    (repeat (first | ((with_reducible apply zo_end))))
    refine za_begin (m := 19) zq18 rfl ?_
    
    refine za_take (i := 0) rfl zq18 zq18 zq18 zq12 rfl rfl (ZPure0.pure (zp_move rfl rfl)) ?_
    refine za_take (i := 1) rfl zq18 zq18 zq18 zq12 rfl rfl (ZPure0.pure (zp_move rfl rfl)) ?_
    refine za_take (i := 2) rfl zq18 zq18 zq18 zq12 rfl rfl (ZPure0.pure (zp_move rfl rfl)) ?_
    refine za_take (i := 3) rfl zq18 zq18 zq18 zq12 rfl rfl zq0 ?_
    refine za_take (i := 8) rfl zq18 zq18 zq18 zq12 rfl rfl (ZPure0.pure (zp_move rfl rfl)) ?_
    refine za_take (i := 9) rfl zq18 zq18 zq18 zq12 rfl rfl (ZPure0.pure (zp_move rfl rfl)) ?_
    refine za_take (i := 10) rfl zq18 zq18 zq18 zq12 rfl rfl zq0 ?_
    refine za_take (i := 14) rfl zq18 zq18 zq18 zq12 rfl rfl (ZPure0.pure (zp_move rfl rfl)) ?_
    (try rw [hcg])
    refine za_take (i := 4) rfl zq18 zq18 zq18 zq12 rfl rfl zq7 ?_
    refine za_take (i := 5) rfl zq18 zq18 zq18 zq12 rfl rfl zq11 ?_
    refine za_take (i := 6) rfl zq18 zq18 zq18 zq12 rfl rfl (ZPure0.pure (zp_mask (p := 256) 8 rfl rfl rfl rfl (by decide) (by decide) (by decide))) ?_
    refine za_take (i := 7) rfl zq18 zq18 zq18 zq12 rfl rfl (ZPure0.pure (zp_add rfl rfl rfl zq13)) ?_
    refine za_take (i := 11) rfl zq18 zq18 zq18 zq12 rfl rfl zq7 ?_
    refine za_take (i := 12) rfl zq18 zq18 zq18 zq12 rfl rfl zq11 ?_
    refine za_take (i := 13) rfl zq18 zq18 zq18 zq12 rfl rfl (ZPure0.pure (zp_mask (p := 65536) 16 rfl rfl rfl rfl (by decide) (by decide) (by decide))) ?_
    refine za_take (i := 15) rfl zq18 zq18 zq18 zq12 rfl rfl (ZPure0.pure (zp_build (xs := [(0, .tmp 37), (1, .tmp 43), (2, .tmp 44)]) rfl (el_of rfl) (st_of rfl) rfl (by first | (simp only [fillD, cellsD, cells_orow, List.take_zero, List.take_succ_cons, List.take_nil, List.drop_succ_cons, List.drop_zero, List.drop_nil, List.nil_append, List.cons_append, List.append_nil, Nat.zero_add, Nat.reduceAdd, List.length_cons, List.length_nil]; exact rfl) | ((repeat (apply fillD_cons; exact rfl; (first | exact rfl | simp [cells_orow]); (exact Nat.le_of_ble_eq_true rfl); (simp only [cells_orow, cD_int, cD_bool, cD_float, cD_nil, cD_ptr0, cD_str, cD_row, cD_mrow, cD_ptr, cD_ref, cD_fn, cD_agg, List.take_zero, List.take_succ_cons, List.take_nil, List.drop_succ_cons, List.drop_zero, List.drop_nil, List.nil_append, List.cons_append, List.append_nil, Nat.zero_add, Nat.reduceAdd]; exact rfl))); exact rfl) | exact rfl))) ?_
    refine za_one_val (i := 16) zq18 rfl zq12 rfl rfl (zv_lit (xs := [.tmp 45]) rfl rfl el_Cell zq16 rfl (by simp [cellsD, oneD, Value.oneCell']) (by decide) ?_)
    refine za_one_val (i := 17) zq18 rfl zq12 rfl rfl (zv_sapp (i := 0) rfl el_Cell (by simp [oneD, Value.oneCell']) zq16 rfl hS2 rfl hg rfl (by simp; omega) fun o1 c1 full1 s3 hS3 hg1 => ?_)
    have hg1 : GRow o1 full1 3 (i + 1) c1 (cellR ((l.take (i + 1)).map (tameC S))).flatten := by
      have e : (cellR ((l.take (i + 1)).map (tameC S))).flatten = (cellR ((l.take i).map (tameC S))).flatten ++ cellD (tameC S cv) := by rw [htt]; simp [cellR]
      rw [e]; exact hg1
    refine za_take (i := 18) rfl zq18 zq18 zq18 zq12 rfl rfl (ZPure0.pure (zp_assign rfl rfl)) ?_
    refine za_endB zq18 ?_
    (repeat (first | ((with_reducible apply zr_region); (try simp only [List.append_eq, List.cons_append, List.nil_append])) | ((with_reducible apply zo_end)) | ((with_reducible apply zs_move); (exact rfl); (exact rfl)) | ((with_reducible apply zs_assign); (exact rfl); (exact rfl)) | ((with_reducible apply zs_add); (exact rfl); (exact rfl); (exact rfl); (first | (with_reducible assumption) | exact wrap_in64 (by omega) (by omega)))))
    exact ⟨m - 1, _, by omega, ⟨i + 1, o1, c1, full1, by omega, by omega, rfl, hS3, hg1⟩, zq10, zq10⟩
  · simp only [cellR_length] at h'
    have he : (l.take i).map (tameC S) = tame l k S := by
      unfold tame
      congr 1
      rcases Nat.lt_or_ge i k with h2 | h2
      · rw [List.take_of_length_le (by omega), List.take_of_length_le (by omega)]
      · obtain rfl : i = k := by omega
        rfl
    rw [he] at hg
    have hil : i = (tame l k S).length := by rw [tame_length, ← Nat.min_comm]; omega
    rw [hil] at hg ⊢
    (repeat (first | ((with_reducible apply zr_seq)) | ((with_reducible apply zr_region); (try simp only [List.append_eq, List.cons_append, List.nil_append])) | ((with_reducible apply zo_end)) | ((with_reducible apply zs_move); (exact rfl); (exact rfl)) | ((with_reducible apply zs_assign); (exact rfl); (exact rfl)) | (with_reducible refine zr_exit ?_; simp only [Zthen, Zblock, ↓reduceIte]) | ((with_reducible apply zr_retZ); (exact rfl); (repeat (first | exact resD_nil _ _ _ | ((with_reducible apply resD_tmp); (exact rfl)) | ((with_reducible apply resD_cell_agg); (exact rfl); (exact sh_of rfl); (first | assumption | exact St.setH_self _ _ _ | exact Sep.at_ (i := 0) zq17 rfl | exact Sep.at_ (i := 1) zq17 rfl | exact Sep.at_ (i := 2) zq17 rfl | exact Sep.at_ (i := 3) zq17 rfl | exact Sep.at_ (i := 4) zq17 rfl | exact Sep.at_ (i := 5) zq17 rfl | exact Sep.at_ (i := 6) zq17 rfl); (exact rfl)) | ((with_reducible apply resD_cell); (exact rfl); (exact sh_of rfl); (first | assumption | exact St.setH_self _ _ _ | exact Sep.at_ (i := 0) zq17 rfl | exact Sep.at_ (i := 1) zq17 rfl | exact Sep.at_ (i := 2) zq17 rfl | exact Sep.at_ (i := 3) zq17 rfl | exact Sep.at_ (i := 4) zq17 rfl | exact Sep.at_ (i := 5) zq17 rfl | exact Sep.at_ (i := 6) zq17 rfl); (exact rfl)))); (simp only [resOf]))))
    exact KE.mk s (Ext.refl _) (hK o c full s hS hg)
theorem cellR_append (l m : List CellV) : cellR (l ++ m) = cellR l ++ cellR m := by simp [cellR]
theorem cellR_flat_len (l : List CellV) : (cellR l).flatten.length = l.length * 3 := by
  induction l with
  | nil => rfl
  | cons c l ih => show (cellD c ++ (cellR l).flatten).length = _; rw [List.length_append, ih]; simp [cellD]; omega
theorem growC_split {o : Option Nat} {f : List D} {n c : Nat} {A B : List CellV} {m : CellV} (hn : n = A.length + 1 + B.length) (hg : GRow o f 3 n c (cellR (A ++ m :: B)).flatten) : ∃ P S, f = P ++ (cellD m ++ S) ∧ P.length = A.length * 3 ∧ ∀ m', GRow o (P ++ (cellD m' ++ S)) 3 n c (cellR (A ++ m' :: B)).flatten := by
  have e : ∀ m' : CellV, (cellR (A ++ m' :: B)).flatten = (cellR A).flatten ++ (cellD m' ++ (cellR B).flatten) := fun m' => by rw [cellR_append, List.flatten_append]; rfl
  have hl : ∀ m' : CellV, (cellD m').length = 3 := fun _ => rfl
  have hf : f = ((cellR A).flatten ++ (cellD m ++ (cellR B).flatten)) ++ f.drop (n * 3) := by rw [← e m, ← hg.cells, List.take_append_drop]
  have hf' : f = (cellR A).flatten ++ (cellD m ++ ((cellR B).flatten ++ f.drop (n * 3))) := by rw [← List.append_assoc, ← List.append_assoc, List.append_assoc (cellR A).flatten]; exact hf
  refine ⟨(cellR A).flatten, (cellR B).flatten ++ f.drop (n * 3), hf', cellR_flat_len A, fun m' => ⟨?_, hg.room, hg.nil, ?_⟩⟩
  · have h1 := hg.len
    have h2 := congrArg List.length hf'
    simp only [List.length_append, hl] at h2 ⊢
    omega
  · rw [e m', show (cellR A).flatten ++ (cellD m' ++ ((cellR B).flatten ++ f.drop (n * 3))) = ((cellR A).flatten ++ (cellD m' ++ (cellR B).flatten)) ++ f.drop (n * 3) by simp only [List.append_assoc]]
    exact List.take_left' (by simp only [List.length_append, hl, cellR_flat_len]; omega)
theorem cellL0 {P S : List D} {m : CellV} {j : Nat} (h : P.length = j) : (P ++ (cellD m ++ S))[j]? = some (.v (.int .i64 m.1)) := by subst h; simp [cellD]
theorem cellL1 {P S : List D} {m : CellV} {j : Nat} (h : P.length = j) : (P ++ (cellD m ++ S))[j + 1]? = some (.v (.int .i64 m.2.1)) := by subst h; simp [cellD]
theorem cellS1 {P S : List D} {m : CellV} {j : Nat} (n : Int) (h : P.length = j) : (P ++ (cellD m ++ S)).take (j + 1) ++ [D.v (.int .i64 n)] ++ (P ++ (cellD m ++ S)).drop (j + 1 + 1) = P ++ (cellD (m.1, n, m.2.2) ++ S) := by
  subst h
  rw [List.take_append, List.drop_append, List.take_of_length_le (by omega), List.drop_eq_nil_of_le (by omega), show P.length + 1 - P.length = 1 by omega, show P.length + 1 + 1 - P.length = 2 by omega]
  simp [cellD]
end Go.Proofs.ZtLe
namespace Go.Proofs.ZtLe
open Go.RowKit Go.Proofs Go.Proofs.Zm
set_option linter.unusedVariables false
set_option linter.unusedSimpArgs false

/-! ### what is evicted: plain laws -/
def delAll (cs : List CellV) : List CellV → List CellV
  | [] => cs
  | c :: r => delAll (delC cs c.1) r
def Takes (cs : List CellV) : List CellV → Prop
  | [] => True
  | c :: r => findC cs c.1 = some c ∧ Takes (delC cs c.1) r
theorem delAll_snoc : ∀ (cs out : List CellV) (c : CellV), delAll cs (out ++ [c]) = delC (delAll cs out) c.1
  | cs, [], c => rfl
  | cs, d :: r, c => delAll_snoc (delC cs d.1) r c
theorem Takes.at : ∀ {cs out : List CellV} {i : Nat} {c : CellV}, Takes cs out → out[i]? = some c → findC (delAll cs (out.take i)) c.1 = some c
  | cs, d :: r, 0, c, h, hi => by cases hi; exact h.1
  | cs, d :: r, i + 1, c, h, hi => Takes.at (cs := delC cs d.1) h.2 hi
theorem findC_id {k : Int} {c : CellV} : ∀ {cs : List CellV}, findC cs k = some c → c.1 = k ∧ c ∈ cs
  | [], h => by cases h
  | d :: r, h => by
    unfold findC at h
    split at h
    · rename_i e; cases h; exact ⟨e, .head _⟩
    · obtain ⟨h1, h2⟩ := findC_id (cs := r) h; exact ⟨h1, .tail _ h2⟩
theorem findC_del {k j : Int} (hne : j ≠ k) : ∀ cs : List CellV, findC (delC cs k) j = findC cs j
  | [] => rfl
  | d :: r => by
    unfold delC findC
    by_cases e : d.1 = k
    · rw [if_pos e, if_neg (by omega)]
      cases r with
      | nil => rfl
      | cons a b => rfl
    · rw [if_neg e]
      by_cases e2 : d.1 = j
      · rw [if_pos e2]; simp [findC, e2]
      · rw [if_neg e2]; simp [findC, e2]; exact findC_del hne r
theorem findC_delAll {j : Int} : ∀ {out cs : List CellV}, (∀ c ∈ out, j ≠ c.1) → findC (delAll cs out) j = findC cs j
  | [], cs, h => rfl
  | d :: r, cs, h => by
    show findC (delAll (delC cs d.1) r) j = _
    rw [findC_delAll (fun c hc => h c (.tail _ hc)), findC_del (h d (.head _))]
theorem delC_len {k : Int} : ∀ {cs : List CellV}, (findC cs k).isSome = true → (delC cs k).length + 1 = cs.length
  | [], h => by cases h
  | d :: r, h => by
    unfold findC at h
    unfold delC
    by_cases e : d.1 = k
    · rw [if_pos e]; rfl
    · rw [if_neg e] at h ⊢
      show (delC r k).length + 1 + 1 = r.length + 1
      rw [delC_len h]
theorem Takes.len : ∀ {out cs : List CellV}, Takes cs out → (delAll cs out).length + out.length = cs.length
  | [], cs, h => rfl
  | d :: r, cs, h => by
    have h1 := delC_len (cs := cs) (k := d.1) (by rw [h.1]; rfl)
    have h2 := Takes.len h.2
    show (delAll (delC cs d.1) r).length + (r.length + 1) = _
    omega
theorem mem_del {k j : Int} : ∀ {cs : List CellV}, j ∈ (delC cs k).map (·.1) → j ∈ cs.map (·.1)
  | cs, h => by
    obtain ⟨c, hc, rfl⟩ := List.mem_map.1 h
    exact List.mem_map.2 ⟨c, delC_sub k cs c hc, rfl⟩
theorem mem_delAll {j : Int} : ∀ {out cs : List CellV}, j ∈ (delAll cs out).map (·.1) → j ∈ cs.map (·.1)
  | [], cs, h => h
  | d :: r, cs, h => mem_del (mem_delAll (cs := delC cs d.1) h)
theorem not_mem_del {k : Int} : ∀ {cs : List CellV}, cs.Pairwise (fun a b => a.1 ≠ b.1) → k ∉ (delC cs k).map (·.1)
  | [], _, h => by cases h
  | d :: r, hp, h => by
    obtain ⟨h1, h2⟩ := List.pairwise_cons.1 hp
    unfold delC at h
    split at h
    · rename_i e
      obtain ⟨c, hc, hk⟩ := List.mem_map.1 h
      exact h1 c hc (by rw [e]; exact hk.symm)
    · rename_i e
      rcases List.mem_cons.1 h with h | h
      · exact e h.symm
      · exact not_mem_del h2 h
theorem not_mem_delAll {c : CellV} : ∀ {out cs : List CellV}, cs.Pairwise (fun a b => a.1 ≠ b.1) → c ∈ out → c.1 ∉ (delAll cs out).map (·.1)
  | d :: r, cs, hp, hc => by
    rcases List.mem_cons.1 hc with rfl | hc
    · exact fun h => not_mem_del hp (mem_delAll (cs := delC cs c.1) h)
    · exact not_mem_delAll (cs := delC cs d.1) (delC_nd _ cs hp) hc
structure EvOk (n leaf level z : Int) (ids : List Int) (cs out0 : List CellV) (r : List CellV × List CellV) (new : List CellV) : Prop where
  out : r.1 = out0 ++ new
  rest : r.2 = delAll cs new
  takes : Takes cs new
  sub : (new.map (·.1)).Sublist ids
  meet : ∀ c ∈ new, level ≤ meetL n c.2.1 leaf
  few : (out0.length : Int) ≤ z → (r.1.length : Int) ≤ z
  all : (r.1.length : Int) < z → ∀ k ∈ ids, (∀ c ∈ new, k ≠ c.1) → ¬ level ≤ meetL n ((findC cs k).getD zc).2.1 leaf
theorem evL_ok (n leaf level z : Int) : ∀ (ids : List Int) (cs out0 : List CellV), (∀ k ∈ ids, k ∈ cs.map (·.1)) → ids.Pairwise (· < ·) → ∃ new, EvOk n leaf level z ids cs out0 (evL n leaf level z ids cs out0) new
  | [], cs, out0, _, _ => ⟨[], by simp [evL], rfl, trivial, .slnil, fun c h => (by cases h), fun h => h, fun _ k h => (by cases h)⟩
  | k :: r, cs, out0, hm, hp => by
    obtain ⟨hp1, hp2⟩ := List.pairwise_cons.1 hp
    obtain ⟨c, hc, hf, hk⟩ := findC_some (hm k (.head _))
    unfold evL
    rw [hf]
    simp only [Option.getD_some]
    by_cases hcond : (out0.length : Int) < z ∧ level ≤ meetL n c.2.1 leaf
    · rw [if_pos hcond]
      have hm2 : ∀ j ∈ r, j ∈ (delC cs k).map (·.1) := fun j hj => by
        have hlt := hp1 j hj
        obtain ⟨d, hd, hdf, hdk⟩ := findC_some (hm j (.tail _ hj))
        have h3 : findC (delC cs k) j = some d := by rw [findC_del (by omega)]; exact hdf
        obtain ⟨h4, h5⟩ := findC_id h3
        exact List.mem_map.2 ⟨d, h5, h4⟩
      obtain ⟨new, h⟩ := evL_ok n leaf level z r (delC cs k) (out0 ++ [c]) hm2 hp2
      refine ⟨c :: new, ?_, ?_, ?_, ?_, ?_, ?_, ?_⟩
      · rw [h.out]; simp
      · rw [h.rest]; show _ = delAll (delC cs c.1) new; rw [hk]
      · exact ⟨by rw [hk]; exact hf, by rw [hk]; exact h.takes⟩
      · show (c.1 :: new.map (·.1)).Sublist (k :: r); rw [hk]; exact h.sub.cons_cons k
      · intro d hd
        rcases List.mem_cons.1 hd with rfl | hd
        · exact hcond.2
        · exact h.meet d hd
      · intro _; exact h.few (by rw [List.length_append]; simp; omega)
      · intro hl j hj hn
        rcases List.mem_cons.1 hj with rfl | hj
        · exact absurd hk.symm (hn c (.head _))
        · have h1 := h.all hl j hj (fun d hd => hn d (.tail _ hd))
          rw [findC_del (by have := hp1 j hj; omega)] at h1
          exact h1
    · rw [if_neg hcond]
      obtain ⟨new, h⟩ := evL_ok n leaf level z r cs out0 (fun j hj => hm j (.tail _ hj)) hp2
      refine ⟨new, h.out, h.rest, h.takes, h.sub.cons k, h.meet, h.few, fun hl j hj hn => ?_⟩
      rcases List.mem_cons.1 hj with rfl | hj
      · rw [hf]
        intro hle
        have h1 : (out0.length : Int) < z := by
          have := congrArg List.length h.out
          rw [List.length_append] at this
          omega
        exact hcond ⟨h1, hle⟩
      · exact h.all hl j hj hn
theorem sortI_lt {cs : List CellV} (h : cs.Pairwise (fun a b => a.1 ≠ b.1)) : (sortI (cs.map (·.1))).Pairwise (· < ·) := by
  have tr : ∀ a b c : Int, leI a b = true → leI b c = true → leI a c = true := fun a b c h1 h2 => by simp only [leI, decide_eq_true_eq] at *; exact Int.le_trans h1 h2
  have to : ∀ a b : Int, (leI a b || leI b a) = true := fun a b => by simp only [leI, Bool.or_eq_true, decide_eq_true_eq]; exact Int.le_total a b
  have h1 : (sortI (cs.map (·.1))).Pairwise (fun a b => leI a b = true) := List.pairwise_mergeSort tr to _
  have h2 : (sortI (cs.map (·.1))).Nodup := by
    refine (List.mergeSort_perm _ _).nodup_iff.2 ?_
    exact List.pairwise_map.2 h
  refine (h1.and h2).imp fun {a b} hab => ?_
  have h3 : a ≤ b := by simpa [leI] using hab.1
  have h4 : a ≠ b := hab.2
  omega
theorem evOut_ok {n leaf level z : Int} (hat : atOk n leaf level = true) {cs : List CellV} (h : cs.Pairwise (fun a b => a.1 ≠ b.1)) : ∃ new, EvOk n leaf level z (sortI (cs.map (·.1))) cs [] (evOut n leaf level z cs) new := by
  unfold evOut
  rw [hat]
  exact evL_ok n leaf level z _ cs [] (fun k hk => sortI_mem.1 hk) (sortI_lt h)
theorem StOk.delAll {m s : Int} : ∀ {new cs : List CellV}, StOk ⟨m, s, cs⟩ → StOk ⟨m, s, delAll cs new⟩
  | [], cs, h => h
  | c :: r, cs, h => StOk.delAll (cs := delC cs c.1) (h.del c.1)
theorem at8 {lf lv : Int} (h1 : 0 ≤ lf ∧ lf ≤ 7) (h2 : 0 ≤ lv ∧ lv ≤ 3) : atOk 8 lf lv = true := by
  have key : ((List.range 8).all fun a => (List.range 4).all fun b => atOk 8 (a : Nat) (b : Nat)) = true := by decide +kernel
  have h3 := List.all_eq_true.1 (List.all_eq_true.1 key lf.toNat (List.mem_range.2 (by omega))) lv.toNat (List.mem_range.2 (by omega))
  rw [Int.toNat_of_nonneg h1.1, Int.toNat_of_nonneg h2.1] at h3
  exact h3
theorem Takes.snoc {cs new : List CellV} {i : Nat} {c : CellV} (h : new[i]? = some c) : delC (delAll cs (new.take i)) c.1 = delAll cs (new.take (i + 1)) := by
  obtain ⟨hlt, rfl⟩ := List.getElem?_eq_some_iff.1 h
  rw [List.take_succ_eq_append_getElem hlt, delAll_snoc]
end Go.Proofs.ZtLe
