/- A part of the proof of StshRooms: walks of the functions that it reaches. No condition. -/
import Derived.Test.YtaiegjgiodlpaaaDoorZtP6
import Derived.Test.YtaiegjgiodlpaaaDoorZtP3
import Derived.Test.YtaiegjgiodlpaaaDoorZmP2
import Derived.Test.YtaiegjgiodlpaaaDoorZmAuto
namespace Go.Proofs.ZtLe
open Go.RowKit Go.Proofs Go.Proofs.Zm
set_option linter.unusedVariables false
set_option linter.unusedSimpArgs false
set_option maxHeartbeats 20000000
set_option maxRecDepth 100000
attribute [local irreducible] ZWp ZOps ZPure ZPure0 ZVal ZOp SoundF

/-! ### dumbwaiterlaw15: awake -/
theorem sortI_eq {l m : List Int} (hp : l.Perm m) (hs : m.Pairwise (fun a b => a ≤ b)) : sortI l = m := by
  unfold sortI
  rw [mergeSort_of_perm_i hp]
  refine List.mergeSort_of_pairwise (hs.imp fun {a b} h => ?_)
  simpa [leI] using h
theorem IsStsh.set {st : St} {s id : Nat} {v : StshV} (h : IsStsh st s id v) (cs : List CellV) : IsStsh (st.setN id (some (mapI .i64 (stD cs)))) s id ⟨v.most, v.size, cs⟩ := ⟨h.h, setN_self _ _ _⟩
def awC : List CellV := [(7, 3, [100]), (3, 0, [98])]
theorem aw_ok (cs : List CellV) (h : cs.length ≤ 2) (h1 : cs.all (fun c => okC c 1) = true) (h2 : cs.Pairwise (fun a b => a.1 ≠ b.1)) : StOk ⟨2, 1, cs⟩ := ⟨(by decide : (0 : Int) ≤ 2), (by decide : (2 : Int) ≤ 10000), (by decide : (0 : Int) ≤ 1), (by decide : (1 : Int) ≤ 60000), by show (cs.length : Int) ≤ 2; omega, List.all_eq_true.1 h1, h2⟩
theorem aw_ev : evOut 4 2 1 4 awC = ([(7, 3, [100])], [(3, 0, [98])]) := by
  have h : sortI (awC.map (·.1)) = [3, 7] := sortI_eq (by decide) (by decide)
  unfold evOut
  rw [h]
  decide +kernel
theorem aw_st : stB ⟨2, 1, [(3, 0, [98])]⟩ = [1, 0, 0, 0, 3, 0, 0, 0, 0, 0, 0, 0, 98] ++ List.replicate 9 0 := by
  have h : sortI (([(3, 0, [98])] : List CellV).map (·.1)) = [3] := sortI_eq (by decide) (by decide)
  unfold stB stHead sortC
  simp only
  rw [h]
  decide +kernel
theorem aw_ids : sortI (([(3, 0, [98])] : List CellV).map (·.1)) = [3] := sortI_eq (by decide) (by decide)
theorem awake15_snd : SoundF Tryd.prog 11 fun args st K => args = [] ∧ K (.v (.bool true)) st := by
  refine sound_ofA Tryd.func11 rfl Tryd.results11 ?_
  rintro w0 args st K ⟨rfl, hK⟩
  rw [Tryd.ntmps11]; refine ⟨by simp, ?_⟩
  have hS := Sep.nil st
  (repeat (first | ((with_reducible apply zr_seq)) | ((with_reducible apply zr_region); (try simp only [List.append_eq, List.cons_append, List.nil_append])) | ((with_reducible apply zo_end)) | ((with_reducible apply zs_assign); (exact rfl); (exact rfl)) | ((with_reducible apply zs_call snew_snd cl_6); (exact rfl); (exact rfl); ((try simp only [List.append_nil]); first | exact Ups.nilrow 1 (Ups.nilrow 1 (Ups.nilrow 1 (Ups.refl _))) | exact Ups.nilrow 1 (Ups.nilrow 1 (Ups.refl _)) | exact Ups.same (Ups.nilrow 1 (Ups.nilrow 1 (Ups.refl _))) | exact Ups.nilrow 1 (Ups.same (Ups.nilrow 1 (Ups.refl _))) | exact Ups.nilrow 1 (Ups.refl _) | exact Ups.same (Ups.nilrow 1 (Ups.refl _)) | exact Ups.same (Ups.same (Ups.nilrow 1 (Ups.refl _))) | exact Ups.refl _))))
  refine ⟨_, _, rfl, fun s id s1 hE hs hn hI => ?_⟩
  (repeat (first | ((with_reducible apply zr_seq)) | ((with_reducible apply zr_region); (try simp only [List.append_eq, List.cons_append, List.nil_append])) | ((with_reducible apply zo_end)) | ((with_reducible apply zs_move); (exact rfl); (exact rfl)) | ((with_reducible apply zs_assign); (exact rfl); (exact rfl)) | ((with_reducible apply zr_cond_f); (exact rfl); (first | assumption | exact rfl)) | ((with_reducible apply zr_skip')) | ((with_reducible apply zs_peq_ptr); (exact rfl); (exact rfl); (exact un_ptr rfl))))
  rw [show (min (max (2 : Int) 0) 10000) = 2 from rfl, show (min (max (1 : Int) 0) 60000) = 1 from rfl] at hI
  (try ((with_reducible apply zs_yes); exact rfl; exact rfl; (first | assumption | exact rfl))); refine zo_val rfl rfl (by decide) (zv_buildSlice (xs := [.const (.int .u8 97)]) rfl rfl el_U8 zq13 rfl (by simp [cellsD, oneD, Value.oneCell']) (by decide) fun tq htq htq0 => ?_); (try ((with_reducible apply zs_yes); exact rfl; exact rfl; (first | assumption | exact rfl))); refine zo_val rfl rfl (by decide) (zv_conv_bytes rfl zq13 Tryd.underlying5 rfl (by simp) (by decide) (by simp) ?_); rw [St.setT_back htq]
  (repeat (first | ((with_reducible apply zs_build); (exact rfl); (exact el_of rfl); (exact st_of rfl); (exact rfl); (first | (simp only [fillD, cellsD, cells_orow, List.take_zero, List.take_succ_cons, List.take_nil, List.drop_succ_cons, List.drop_zero, List.drop_nil, List.nil_append, List.cons_append, List.append_nil, Nat.zero_add, Nat.reduceAdd, List.length_cons, List.length_nil]; exact rfl) | ((repeat (apply fillD_cons; exact rfl; (first | exact rfl | simp [cells_orow]); (exact Nat.le_of_ble_eq_true rfl); (simp only [cells_orow, cD_int, cD_bool, cD_float, cD_nil, cD_ptr0, cD_str, cD_row, cD_mrow, cD_ptr, cD_ref, cD_fn, cD_agg, List.take_zero, List.take_succ_cons, List.take_nil, List.drop_succ_cons, List.drop_zero, List.drop_nil, List.nil_append, List.cons_append, List.append_nil, Nat.zero_add, Nat.reduceAdd]; exact rfl))); exact rfl) | exact rfl)) | ((with_reducible apply zs_call sput_snd cl_8); (exact rfl); (exact rfl); ((try simp only [List.append_nil]); first | exact Ups.nilrow 1 (Ups.nilrow 1 (Ups.nilrow 1 (Ups.refl _))) | exact Ups.nilrow 1 (Ups.nilrow 1 (Ups.refl _)) | exact Ups.same (Ups.nilrow 1 (Ups.nilrow 1 (Ups.refl _))) | exact Ups.nilrow 1 (Ups.same (Ups.nilrow 1 (Ups.refl _))) | exact Ups.nilrow 1 (Ups.refl _) | exact Ups.same (Ups.nilrow 1 (Ups.refl _)) | exact Ups.same (Ups.same (Ups.nilrow 1 (Ups.refl _))) | exact Ups.refl _))))
  refine ⟨s, id, ⟨2, 1, []⟩, (7, 2, [97]), rfl, hI, aw_ok _ (by decide) (by decide) (by decide), ?_⟩
  rw [show sputB ⟨2, 1, []⟩ (7, 2, [97]) = true by decide, if_pos rfl, show setC (StshV.mk 2 1 []).cs (7, 2, [97]) = [(7, 2, [97])] by decide]
  replace hI : IsStsh _ s id ⟨2, 1, [(7, 2, [97])]⟩ := hI.set [(7, 2, [97])]
  replace hE := hE.setNew hn (some (mapI .i64 (stD [(7, 2, [97])])))
  generalize hs2 : St.setN _ id (some (mapI .i64 (stD [(7, 2, [97])]))) = s2 at *
  clear hs2
  (repeat (first | ((with_reducible apply zr_seq)) | ((with_reducible apply zr_region); (try simp only [List.append_eq, List.cons_append, List.nil_append])) | ((with_reducible apply zo_end)) | ((with_reducible apply zs_move); (exact rfl); (exact rfl)) | ((with_reducible apply zs_assign); (exact rfl); (exact rfl))))
  (try ((with_reducible apply zs_yes); exact rfl; exact rfl; (first | assumption | exact rfl))); refine zo_val rfl rfl (by decide) (zv_buildSlice (xs := [.const (.int .u8 98)]) rfl rfl el_U8 zq13 rfl (by simp [cellsD, oneD, Value.oneCell']) (by decide) fun tq htq htq0 => ?_); (try ((with_reducible apply zs_yes); exact rfl; exact rfl; (first | assumption | exact rfl))); refine zo_val rfl rfl (by decide) (zv_conv_bytes rfl zq13 Tryd.underlying5 rfl (by simp) (by decide) (by simp) ?_); rw [St.setT_back htq]
  (repeat (first | ((with_reducible apply zs_build); (exact rfl); (exact el_of rfl); (exact st_of rfl); (exact rfl); (first | (simp only [fillD, cellsD, cells_orow, List.take_zero, List.take_succ_cons, List.take_nil, List.drop_succ_cons, List.drop_zero, List.drop_nil, List.nil_append, List.cons_append, List.append_nil, Nat.zero_add, Nat.reduceAdd, List.length_cons, List.length_nil]; exact rfl) | ((repeat (apply fillD_cons; exact rfl; (first | exact rfl | simp [cells_orow]); (exact Nat.le_of_ble_eq_true rfl); (simp only [cells_orow, cD_int, cD_bool, cD_float, cD_nil, cD_ptr0, cD_str, cD_row, cD_mrow, cD_ptr, cD_ref, cD_fn, cD_agg, List.take_zero, List.take_succ_cons, List.take_nil, List.drop_succ_cons, List.drop_zero, List.drop_nil, List.nil_append, List.cons_append, List.append_nil, Nat.zero_add, Nat.reduceAdd]; exact rfl))); exact rfl) | exact rfl)) | ((with_reducible apply zs_call sput_snd cl_8); (exact rfl); (exact rfl); ((try simp only [List.append_nil]); first | exact Ups.nilrow 1 (Ups.nilrow 1 (Ups.nilrow 1 (Ups.refl _))) | exact Ups.nilrow 1 (Ups.nilrow 1 (Ups.refl _)) | exact Ups.same (Ups.nilrow 1 (Ups.nilrow 1 (Ups.refl _))) | exact Ups.nilrow 1 (Ups.same (Ups.nilrow 1 (Ups.refl _))) | exact Ups.nilrow 1 (Ups.refl _) | exact Ups.same (Ups.nilrow 1 (Ups.refl _)) | exact Ups.same (Ups.same (Ups.nilrow 1 (Ups.refl _))) | exact Ups.refl _))))
  refine ⟨s, id, ⟨2, 1, [(7, 2, [97])]⟩, (3, 0, [98]), rfl, hI, aw_ok _ (by decide) (by decide) (by decide), ?_⟩
  rw [show sputB ⟨2, 1, [(7, 2, [97])]⟩ (3, 0, [98]) = true by decide, if_pos rfl, show setC (StshV.mk 2 1 [(7, 2, [97])]).cs (3, 0, [98]) = [(7, 2, [97]), (3, 0, [98])] by decide]
  replace hI : IsStsh _ s id ⟨2, 1, [(7, 2, [97]), (3, 0, [98])]⟩ := hI.set [(7, 2, [97]), (3, 0, [98])]
  replace hE := hE.setNew hn (some (mapI .i64 (stD [(7, 2, [97]), (3, 0, [98])])))
  generalize hs2 : St.setN _ id (some (mapI .i64 (stD [(7, 2, [97]), (3, 0, [98])]))) = s2 at *
  clear hs2
  (repeat (first | ((with_reducible apply zr_seq)) | ((with_reducible apply zr_region); (try simp only [List.append_eq, List.cons_append, List.nil_append])) | ((with_reducible apply zo_end)) | ((with_reducible apply zs_move); (exact rfl); (exact rfl)) | ((with_reducible apply zs_assign); (exact rfl); (exact rfl))))
  (try ((with_reducible apply zs_yes); exact rfl; exact rfl; (first | assumption | exact rfl))); refine zo_val rfl rfl (by decide) (zv_buildSlice (xs := [.const (.int .u8 99)]) rfl rfl el_U8 zq13 rfl (by simp [cellsD, oneD, Value.oneCell']) (by decide) fun tq htq htq0 => ?_); (try ((with_reducible apply zs_yes); exact rfl; exact rfl; (first | assumption | exact rfl))); refine zo_val rfl rfl (by decide) (zv_conv_bytes rfl zq13 Tryd.underlying5 rfl (by simp) (by decide) (by simp) ?_); rw [St.setT_back htq]
  (repeat (first | ((with_reducible apply zs_build); (exact rfl); (exact el_of rfl); (exact st_of rfl); (exact rfl); (first | (simp only [fillD, cellsD, cells_orow, List.take_zero, List.take_succ_cons, List.take_nil, List.drop_succ_cons, List.drop_zero, List.drop_nil, List.nil_append, List.cons_append, List.append_nil, Nat.zero_add, Nat.reduceAdd, List.length_cons, List.length_nil]; exact rfl) | ((repeat (apply fillD_cons; exact rfl; (first | exact rfl | simp [cells_orow]); (exact Nat.le_of_ble_eq_true rfl); (simp only [cells_orow, cD_int, cD_bool, cD_float, cD_nil, cD_ptr0, cD_str, cD_row, cD_mrow, cD_ptr, cD_ref, cD_fn, cD_agg, List.take_zero, List.take_succ_cons, List.take_nil, List.drop_succ_cons, List.drop_zero, List.drop_nil, List.nil_append, List.cons_append, List.append_nil, Nat.zero_add, Nat.reduceAdd]; exact rfl))); exact rfl) | exact rfl)) | ((with_reducible apply zs_call sput_snd cl_8); (exact rfl); (exact rfl); ((try simp only [List.append_nil]); first | exact Ups.nilrow 1 (Ups.nilrow 1 (Ups.nilrow 1 (Ups.refl _))) | exact Ups.nilrow 1 (Ups.nilrow 1 (Ups.refl _)) | exact Ups.same (Ups.nilrow 1 (Ups.nilrow 1 (Ups.refl _))) | exact Ups.nilrow 1 (Ups.same (Ups.nilrow 1 (Ups.refl _))) | exact Ups.nilrow 1 (Ups.refl _) | exact Ups.same (Ups.nilrow 1 (Ups.refl _)) | exact Ups.same (Ups.same (Ups.nilrow 1 (Ups.refl _))) | exact Ups.refl _))))
  refine ⟨s, id, ⟨2, 1, [(7, 2, [97]), (3, 0, [98])]⟩, (5, 0, [99]), rfl, hI, aw_ok _ (by decide) (by decide) (by decide), ?_⟩
  rw [show sputB ⟨2, 1, [(7, 2, [97]), (3, 0, [98])]⟩ (5, 0, [99]) = false by decide, if_neg Bool.false_ne_true]
  (repeat (first | ((with_reducible apply zr_seq)) | ((with_reducible apply zr_region); (try simp only [List.append_eq, List.cons_append, List.nil_append])) | ((with_reducible apply zo_end)) | ((with_reducible apply zs_move); (exact rfl); (exact rfl)) | ((with_reducible apply zs_assign); (exact rfl); (exact rfl))))
  (try ((with_reducible apply zs_yes); exact rfl; exact rfl; (first | assumption | exact rfl))); refine zo_val rfl rfl (by decide) (zv_buildSlice (xs := [.const (.int .u8 100)]) rfl rfl el_U8 zq13 rfl (by simp [cellsD, oneD, Value.oneCell']) (by decide) fun tq htq htq0 => ?_); (try ((with_reducible apply zs_yes); exact rfl; exact rfl; (first | assumption | exact rfl))); refine zo_val rfl rfl (by decide) (zv_conv_bytes rfl zq13 Tryd.underlying5 rfl (by simp) (by decide) (by simp) ?_); rw [St.setT_back htq]
  (repeat (first | ((with_reducible apply zs_build); (exact rfl); (exact el_of rfl); (exact st_of rfl); (exact rfl); (first | (simp only [fillD, cellsD, cells_orow, List.take_zero, List.take_succ_cons, List.take_nil, List.drop_succ_cons, List.drop_zero, List.drop_nil, List.nil_append, List.cons_append, List.append_nil, Nat.zero_add, Nat.reduceAdd, List.length_cons, List.length_nil]; exact rfl) | ((repeat (apply fillD_cons; exact rfl; (first | exact rfl | simp [cells_orow]); (exact Nat.le_of_ble_eq_true rfl); (simp only [cells_orow, cD_int, cD_bool, cD_float, cD_nil, cD_ptr0, cD_str, cD_row, cD_mrow, cD_ptr, cD_ref, cD_fn, cD_agg, List.take_zero, List.take_succ_cons, List.take_nil, List.drop_succ_cons, List.drop_zero, List.drop_nil, List.nil_append, List.cons_append, List.append_nil, Nat.zero_add, Nat.reduceAdd]; exact rfl))); exact rfl) | exact rfl)) | ((with_reducible apply zs_call sput_snd cl_8); (exact rfl); (exact rfl); ((try simp only [List.append_nil]); first | exact Ups.nilrow 1 (Ups.nilrow 1 (Ups.nilrow 1 (Ups.refl _))) | exact Ups.nilrow 1 (Ups.nilrow 1 (Ups.refl _)) | exact Ups.same (Ups.nilrow 1 (Ups.nilrow 1 (Ups.refl _))) | exact Ups.nilrow 1 (Ups.same (Ups.nilrow 1 (Ups.refl _))) | exact Ups.nilrow 1 (Ups.refl _) | exact Ups.same (Ups.nilrow 1 (Ups.refl _)) | exact Ups.same (Ups.same (Ups.nilrow 1 (Ups.refl _))) | exact Ups.refl _))))
  refine ⟨s, id, ⟨2, 1, [(7, 2, [97]), (3, 0, [98])]⟩, (7, 3, [100]), rfl, hI, aw_ok _ (by decide) (by decide) (by decide), ?_⟩
  rw [show sputB ⟨2, 1, [(7, 2, [97]), (3, 0, [98])]⟩ (7, 3, [100]) = true by decide, if_pos rfl, show setC (StshV.mk 2 1 [(7, 2, [97]), (3, 0, [98])]).cs (7, 3, [100]) = awC by decide]
  replace hI : IsStsh _ s id ⟨2, 1, awC⟩ := hI.set awC
  replace hE := hE.setNew hn (some (mapI .i64 (stD awC)))
  generalize hs2 : St.setN _ id (some (mapI .i64 (stD awC))) = s2 at *
  clear hs2
  (repeat (first | ((with_reducible apply zr_seq)) | ((with_reducible apply zr_region); (try simp only [List.append_eq, List.cons_append, List.nil_append])) | ((with_reducible apply zo_end)) | ((with_reducible apply zs_move); (exact rfl); (exact rfl)) | ((with_reducible apply zs_assign); (exact rfl); (exact rfl)) | ((with_reducible apply zs_call evict_snd cl_14); (exact rfl); (exact rfl); ((try simp only [List.append_nil]); first | exact Ups.nilrow 1 (Ups.nilrow 1 (Ups.nilrow 1 (Ups.refl _))) | exact Ups.nilrow 1 (Ups.nilrow 1 (Ups.refl _)) | exact Ups.same (Ups.nilrow 1 (Ups.nilrow 1 (Ups.refl _))) | exact Ups.nilrow 1 (Ups.same (Ups.nilrow 1 (Ups.refl _))) | exact Ups.nilrow 1 (Ups.refl _) | exact Ups.same (Ups.nilrow 1 (Ups.refl _)) | exact Ups.same (Ups.same (Ups.nilrow 1 (Ups.refl _))) | exact Ups.refl _))))
  refine ⟨s, id, ⟨2, 1, awC⟩, 4, 2, 1, 4, rfl, hI, aw_ok _ (by decide) (by decide) (by decide), ?_⟩
  rw [show evOut 4 2 1 4 (StshV.mk 2 1 awC).cs = _ from aw_ev]
  replace hI : IsStsh _ s id ⟨2, 1, [(3, 0, [98])]⟩ := hI.set [(3, 0, [98])]
  replace hE := hE.setNew hn (some (mapI .i64 (stD [(3, 0, [98])])))
  refine (show ZOps _ _ _ _ _ _ _ _ from ?_)
  generalize hs2 : St.setN _ id (some (mapI .i64 (stD [(3, 0, [98])]))) = s2 at *
  clear hs2
  (repeat (first | ((with_reducible apply zr_seq)) | ((with_reducible apply zr_region); (try simp only [List.append_eq, List.cons_append, List.nil_append])) | ((with_reducible apply zo_end)) | ((with_reducible apply zs_move); (exact rfl); (exact rfl)) | ((with_reducible apply zs_assign); (exact rfl); (exact rfl)) | ((with_reducible apply zs_call sstate_snd cl_10); (exact rfl); (exact rfl); ((try simp only [List.append_nil]); first | exact Ups.nilrow 1 (Ups.nilrow 1 (Ups.nilrow 1 (Ups.refl _))) | exact Ups.nilrow 1 (Ups.nilrow 1 (Ups.refl _)) | exact Ups.same (Ups.nilrow 1 (Ups.nilrow 1 (Ups.refl _))) | exact Ups.nilrow 1 (Ups.same (Ups.nilrow 1 (Ups.refl _))) | exact Ups.nilrow 1 (Ups.refl _) | exact Ups.same (Ups.nilrow 1 (Ups.refl _)) | exact Ups.same (Ups.same (Ups.nilrow 1 (Ups.refl _))) | exact Ups.refl _))))
  refine ⟨s, id, ⟨2, 1, [(3, 0, [98])]⟩, rfl, hI, aw_ok _ (by decide) (by decide) (by decide), ?_⟩
  rw [aw_st]
  (repeat (first | ((with_reducible apply zr_seq)) | ((with_reducible apply zo_end)) | ((with_reducible apply zs_assign); (exact rfl); (exact rfl))))
  have hH2 := hI.h
  refine zc_begin (m := 50) ([(s, [.v (.int .i64 2), .v (.int .i64 1), .mp id])]) [] zq15 rfl ?_
  refine zc_take0 (i := 0) rfl zq15 zq15 zq15 zq15 zq11 rfl rfl (ZPure0.pure (zp_move rfl rfl)) ?_
  refine zc_take0 (i := 1) rfl zq15 zq15 zq15 zq15 zq11 rfl rfl (ZPure0.pure (zp_move rfl rfl)) ?_
  refine zc_take0 (i := 2) rfl zq15 zq15 zq15 zq15 zq11 rfl rfl (ZPure0.pure (zp_move rfl rfl)) ?_
  refine zc_take0 (i := 3) rfl zq15 zq15 zq15 zq15 zq11 rfl rfl zq6 ?_
  refine zc_take0 (i := 4) rfl zq15 zq15 zq15 zq15 zq11 rfl rfl (ZPure0.pure (zp_move rfl rfl)) ?_
  refine zc_take0 (i := 5) rfl zq15 zq15 zq15 zq15 zq11 rfl rfl (ZPure0.pure (zp_move rfl rfl)) ?_
  refine zc_take0 (i := 6) rfl zq15 zq15 zq15 zq15 zq11 rfl rfl (ZPure0.pure (zp_not rfl rfl)) ?_
  refine zc_take0 (i := 7) rfl zq15 zq15 zq15 zq15 zq11 rfl rfl zq6 ?_
  refine zc_take0 (i := 8) rfl zq15 zq15 zq15 zq15 zq11 rfl rfl (ZPure0.pure (zp_move rfl rfl)) ?_
  refine zc_take0 (i := 9) rfl zq15 zq15 zq15 zq15 zq11 rfl rfl (ZPure0.pure (zp_move rfl rfl)) ?_
  refine zc_take0 (i := 10) rfl zq15 zq15 zq15 zq15 zq11 rfl rfl zq6 ?_
  refine zc_take0 (i := 11) rfl zq15 zq15 zq15 zq15 zq11 rfl rfl (ZPure0.pure (zp_move rfl rfl)) ?_
  refine zc_take0 (i := 12) rfl zq15 zq15 zq15 zq15 zq11 rfl rfl (ZPure0.pure (zp_move rfl rfl)) ?_
  refine zc_take0 (i := 13) rfl zq15 zq15 zq15 zq15 zq11 rfl rfl (by first | exact (zp_lenB rfl zq13 rfl).pure | exact (zp_len rfl zq13 rfl).pure | exact (zp_len_nil rfl zq13 rfl).pure | exact (zp_len_orow rfl rfl zq13 (by exact GRow.nil0 zq14)).pure) ?_
  refine zc_take0 (i := 14) rfl zq15 zq15 zq15 zq15 zq11 rfl rfl (ZPure0.pure (zp_eql rfl rfl rfl)) ?_
  refine zc_take0 (i := 15) rfl zq15 zq15 zq15 zq15 zq11 rfl rfl zq6 ?_
  refine zc_take0 (i := 16) rfl zq15 zq15 zq15 zq15 zq11 rfl rfl (ZPure0.pure (zp_move rfl rfl)) ?_
  refine zc_take0 (i := 17) rfl zq15 zq15 zq15 zq15 zq11 rfl rfl (ZPure0.pure (zp_move rfl rfl)) ?_
  refine zc_take0 (i := 18) rfl zq15 zq15 zq15 zq15 zq11 rfl rfl zq0 ?_
  refine zc_take0 (i := 19) rfl zq15 zq15 zq15 zq15 zq11 rfl rfl zq7 ?_
  refine zc_take0 (i := 20) rfl zq15 zq15 zq15 zq15 zq11 rfl rfl (zp_load_ref rfl (by exact sh_of rfl) rfl rfl) ?_
  refine zc_take0 (i := 21) rfl zq15 zq15 zq15 zq15 zq11 rfl rfl (ZPure0.pure (zp_eql rfl rfl rfl)) ?_
  refine zc_take0 (i := 22) rfl zq15 zq15 zq15 zq15 zq11 rfl rfl zq6 ?_
  refine zc_take0 (i := 23) rfl zq15 zq15 zq15 zq15 zq11 rfl rfl (ZPure0.pure (zp_move rfl rfl)) ?_
  refine zc_take0 (i := 24) rfl zq15 zq15 zq15 zq15 zq11 rfl rfl (ZPure0.pure (zp_move rfl rfl)) ?_
  refine zc_take0 (i := 25) rfl zq15 zq15 zq15 zq15 zq11 rfl rfl zq0 ?_
  refine zc_take0 (i := 26) rfl zq15 zq15 zq15 zq15 zq11 rfl rfl zq7 ?_
  refine zc_take0 (i := 27) rfl zq15 zq15 zq15 zq15 zq11 rfl rfl (zp_load_ref rfl (by exact sh_of rfl) rfl rfl) ?_
  refine zc_take0 (i := 28) rfl zq15 zq15 zq15 zq15 zq11 rfl rfl (ZPure0.pure (zp_eql rfl rfl rfl)) ?_
  refine zc_take0 (i := 29) rfl zq15 zq15 zq15 zq15 zq11 rfl rfl zq6 ?_
  refine zc_take0 (i := 30) rfl zq15 zq15 zq15 zq15 zq11 rfl rfl (ZPure0.pure (zp_move rfl rfl)) ?_
  refine zc_take0 (i := 31) rfl zq15 zq15 zq15 zq15 zq11 rfl rfl (ZPure0.pure (zp_move rfl rfl)) ?_
  skip
  refine zc_one (i := 32) (fun _ => by first | assumption | (repeat (first | exact BOwn.nil _ | refine BOwn.cons zq3 ?_))) zq15 rfl zq11 (zop_callU slen_snd Tryd.func9 zq15 rfl rfl rfl (by decide) rfl rfl (Ups.refl _) ?_)
  refine ⟨s, id, ⟨2, 1, [(3, 0, [98])]⟩, rfl, hI, ?_⟩
  refine zc_take0 (i := 33) rfl zq15 zq15 zq15 zq15 zq11 rfl rfl (ZPure0.pure (zp_eql rfl rfl rfl)) ?_
  refine zc_take0 (i := 34) rfl zq15 zq15 zq15 zq15 zq11 rfl rfl zq6 ?_
  refine zc_take0 (i := 35) rfl zq15 zq15 zq15 zq15 zq11 rfl rfl (ZPure0.pure (zp_move rfl rfl)) ?_
  refine zc_take0 (i := 36) rfl zq15 zq15 zq15 zq15 zq11 rfl rfl (ZPure0.pure (zp_move rfl rfl)) ?_
  skip
  refine zc_all2 (i := 37) (j := 38) (fun _ => by first | assumption | (repeat (first | exact BOwn.nil _ | refine BOwn.cons zq3 ?_))) zq15 ?_ ?_
  · refine zoneC_op (i := 37) (fun _ => by first | assumption | (repeat (first | exact BOwn.nil _ | refine BOwn.cons zq3 ?_))) rfl zq11 ?_
    refine zop_callU ids_snd Tryd.func16 zq15 rfl rfl rfl (by decide) rfl rfl (Ups.refl _) ?_
    refine ⟨s, id, ⟨2, 1, [(3, 0, [98])]⟩, rfl, hI, aw_ok _ (by decide) (by decide) (by decide), ?_⟩
    rw [aw_ids]
    refine (show ZC _ _ _ _ _ _ _ _ _ _ _ from ?_)
    skip
    refine zc_one_val (i := 38) (fun _ => by first | assumption | (repeat (first | exact BOwn.nil _ | refine BOwn.cons zq3 ?_))) zq15 rfl zq11 rfl rfl (zv_litR (xs := [.const (.int .i64 3)]) (intR [3]) rfl rfl rfl zq13 (by exact el_of rfl) rfl (by decide) (by decide) ?_)
    skip
    refine zc_one (i := 39) (fun _ => by first | assumption | (repeat (first | exact BOwn.nil _ | refine BOwn.cons zq3 ?_))) zq15 rfl zq11 (zop_callQ sameI_pf cl_23 rfl rfl (by decide) rfl rfl zq9 ?_ ?_)
    · decide
    refine zc_take0 (i := 40) rfl zq15 zq15 zq15 zq15 zq11 rfl rfl zq6 ?_
    refine zc_take0 (i := 41) rfl zq15 zq15 zq15 zq15 zq11 rfl rfl (ZPure0.pure (zp_move rfl rfl)) ?_
    refine zc_take0 (i := 42) rfl zq15 zq15 zq15 zq15 zq11 rfl rfl (ZPure0.pure (zp_move rfl rfl)) ?_
    refine zc_take0 (i := 43) rfl zq15 zq15 zq15 zq15 zq11 rfl rfl (zp_toStr rfl zq13 Tryd.underlying5 Tryd.underlying9 rfl) ?_
    skip
    refine zc_one_val (i := 44) (fun _ => by first | assumption | (repeat (first | exact BOwn.nil _ | refine BOwn.cons zq3 ?_))) zq15 rfl zq11 rfl rfl (zv_make0 (e := 5) rfl (by exact el_of rfl) (by simp [oneD, Value.oneCell']) zq13 rfl rfl (by omega) (by omega) (by omega) ?_)
    rw [zeros, show Int.toNat 9 = 9 from rfl]
    refine zc_take0 (i := 45) rfl zq15 zq15 zq15 zq15 zq11 rfl rfl (zp_toStr rfl zq13 Tryd.underlying5 Tryd.underlying9 rfl) ?_
    skip
    refine zc_take0 (i := 46) rfl zq15 zq15 zq15 zq15 zq11 rfl rfl (ZPure0.pure (zp_strcat (l := [1, 0, 0, 0, 3, 0, 0, 0, 0, 0, 0, 0, 98]) (m := List.replicate 9 0) rfl rfl rfl (by decide))) ?_
    refine zc_take0 (i := 47) rfl zq15 zq15 zq15 zq15 zq11 rfl rfl (ZPure0.pure (zp_streq (l := [1, 0, 0, 0, 3, 0, 0, 0, 0, 0, 0, 0, 98] ++ List.replicate 9 0) (m := [1, 0, 0, 0, 3, 0, 0, 0, 0, 0, 0, 0, 98] ++ List.replicate 9 0) (r := true) rfl rfl rfl (.inl ⟨rfl, by decide +kernel⟩))) ?_
    refine zc_take0 (i := 48) rfl zq15 zq15 zq15 zq15 zq11 rfl rfl zq6 ?_
    refine zc_take0 (i := 49) rfl zq15 zq15 zq15 zq15 zq11 rfl rfl (ZPure0.pure (zp_assign rfl rfl)) ?_
    refine zc_end (fun _ => by first | assumption | (repeat (first | exact BOwn.nil _ | refine BOwn.cons zq3 ?_))) zq15 ?_
    (repeat (first | ((with_reducible apply zr_retZ); (exact rfl); (repeat (first | exact resD_nil _ _ _ | ((with_reducible apply resD_tmp); (exact rfl)) | ((with_reducible apply resD_cell_agg); (exact rfl); (exact sh_of rfl); (first | assumption | exact St.setH_self _ _ _ | exact Sep.at_ (i := 0) zq14 rfl | exact Sep.at_ (i := 1) zq14 rfl | exact Sep.at_ (i := 2) zq14 rfl | exact Sep.at_ (i := 3) zq14 rfl | exact Sep.at_ (i := 4) zq14 rfl | exact Sep.at_ (i := 5) zq14 rfl | exact Sep.at_ (i := 6) zq14 rfl); (exact rfl)) | ((with_reducible apply resD_cell); (exact rfl); (exact sh_of rfl); (first | assumption | exact St.setH_self _ _ _ | exact Sep.at_ (i := 0) zq14 rfl | exact Sep.at_ (i := 1) zq14 rfl | exact Sep.at_ (i := 2) zq14 rfl | exact Sep.at_ (i := 3) zq14 rfl | exact Sep.at_ (i := 4) zq14 rfl | exact Sep.at_ (i := 5) zq14 rfl | exact Sep.at_ (i := 6) zq14 rfl); (exact rfl)))); (simp only [resOf]))))
    exact KE.mk st hE hK
  · refine zoneC_op (i := 38) (fun _ => by first | assumption | (repeat (first | exact BOwn.nil _ | refine BOwn.cons zq3 ?_))) rfl zq11 ?_
    refine ZVal.op rfl (by decide) (zv_litR (xs := [.const (.int .i64 3)]) (intR [3]) rfl rfl rfl zq13 (by exact el_of rfl) rfl (by decide) (by decide) ?_)
    skip
    refine zc_one (i := 37) (fun _ => by first | assumption | (repeat (first | exact BOwn.nil _ | refine BOwn.cons zq3 ?_))) zq15 rfl zq11 (zop_callU ids_snd Tryd.func16 zq15 rfl rfl rfl (by decide) rfl rfl (Ups.refl _) ?_)
    refine ⟨s, id, ⟨2, 1, [(3, 0, [98])]⟩, rfl, hI, aw_ok _ (by decide) (by decide) (by decide), ?_⟩
    rw [aw_ids]
    refine (show ZC _ _ _ _ _ _ _ _ _ _ _ from ?_)
    skip
    refine zc_one (i := 39) (fun _ => by first | assumption | (repeat (first | exact BOwn.nil _ | refine BOwn.cons zq3 ?_))) zq15 rfl zq11 (zop_callQ sameI_pf cl_23 rfl rfl (by decide) rfl rfl zq9 ?_ ?_)
    · decide
    refine zc_take0 (i := 40) rfl zq15 zq15 zq15 zq15 zq11 rfl rfl zq6 ?_
    refine zc_take0 (i := 41) rfl zq15 zq15 zq15 zq15 zq11 rfl rfl (ZPure0.pure (zp_move rfl rfl)) ?_
    refine zc_take0 (i := 42) rfl zq15 zq15 zq15 zq15 zq11 rfl rfl (ZPure0.pure (zp_move rfl rfl)) ?_
    refine zc_take0 (i := 43) rfl zq15 zq15 zq15 zq15 zq11 rfl rfl (zp_toStr rfl zq13 Tryd.underlying5 Tryd.underlying9 rfl) ?_
    skip
    refine zc_one_val (i := 44) (fun _ => by first | assumption | (repeat (first | exact BOwn.nil _ | refine BOwn.cons zq3 ?_))) zq15 rfl zq11 rfl rfl (zv_make0 (e := 5) rfl (by exact el_of rfl) (by simp [oneD, Value.oneCell']) zq13 rfl rfl (by omega) (by omega) (by omega) ?_)
    rw [zeros, show Int.toNat 9 = 9 from rfl]
    refine zc_take0 (i := 45) rfl zq15 zq15 zq15 zq15 zq11 rfl rfl (zp_toStr rfl zq13 Tryd.underlying5 Tryd.underlying9 rfl) ?_
    skip
    refine zc_take0 (i := 46) rfl zq15 zq15 zq15 zq15 zq11 rfl rfl (ZPure0.pure (zp_strcat (l := [1, 0, 0, 0, 3, 0, 0, 0, 0, 0, 0, 0, 98]) (m := List.replicate 9 0) rfl rfl rfl (by decide))) ?_
    refine zc_take0 (i := 47) rfl zq15 zq15 zq15 zq15 zq11 rfl rfl (ZPure0.pure (zp_streq (l := [1, 0, 0, 0, 3, 0, 0, 0, 0, 0, 0, 0, 98] ++ List.replicate 9 0) (m := [1, 0, 0, 0, 3, 0, 0, 0, 0, 0, 0, 0, 98] ++ List.replicate 9 0) (r := true) rfl rfl rfl (.inl ⟨rfl, by decide +kernel⟩))) ?_
    refine zc_take0 (i := 48) rfl zq15 zq15 zq15 zq15 zq11 rfl rfl zq6 ?_
    refine zc_take0 (i := 49) rfl zq15 zq15 zq15 zq15 zq11 rfl rfl (ZPure0.pure (zp_assign rfl rfl)) ?_
    refine zc_end (fun _ => by first | assumption | (repeat (first | exact BOwn.nil _ | refine BOwn.cons zq3 ?_))) zq15 ?_
    (repeat (first | ((with_reducible apply zr_retZ); (exact rfl); (repeat (first | exact resD_nil _ _ _ | ((with_reducible apply resD_tmp); (exact rfl)) | ((with_reducible apply resD_cell_agg); (exact rfl); (exact sh_of rfl); (first | assumption | exact St.setH_self _ _ _ | exact Sep.at_ (i := 0) zq14 rfl | exact Sep.at_ (i := 1) zq14 rfl | exact Sep.at_ (i := 2) zq14 rfl | exact Sep.at_ (i := 3) zq14 rfl | exact Sep.at_ (i := 4) zq14 rfl | exact Sep.at_ (i := 5) zq14 rfl | exact Sep.at_ (i := 6) zq14 rfl); (exact rfl)) | ((with_reducible apply resD_cell); (exact rfl); (exact sh_of rfl); (first | assumption | exact St.setH_self _ _ _ | exact Sep.at_ (i := 0) zq14 rfl | exact Sep.at_ (i := 1) zq14 rfl | exact Sep.at_ (i := 2) zq14 rfl | exact Sep.at_ (i := 3) zq14 rfl | exact Sep.at_ (i := 4) zq14 rfl | exact Sep.at_ (i := 5) zq14 rfl | exact Sep.at_ (i := 6) zq14 rfl); (exact rfl)))); (simp only [resOf]))))
    exact KE.mk st hE hK
end Go.Proofs.ZtLe
