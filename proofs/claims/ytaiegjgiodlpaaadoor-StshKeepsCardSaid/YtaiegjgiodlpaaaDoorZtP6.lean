/- A part of the proof of StshKeeps: walks of the functions that it reaches. No condition. -/
import Derived.Test.YtaiegjgiodlpaaaDoorZtP5
import Derived.Test.YtaiegjgiodlpaaaDoorZtP3
import Derived.Test.YtaiegjgiodlpaaaDoorZmP2
import Derived.Test.YtaiegjgiodlpaaaDoorZmAuto
import Derived.Shelf.SlIterI.Sorted
import Derived.Shelf.SortM.Plain
import Derived.Shelf.SortM.SortNone
namespace Go.Proofs.ZtLe
open Go.RowKit Go.Proofs Go.Proofs.Zm
set_option linter.unusedVariables false
set_option linter.unusedSimpArgs false
set_option maxHeartbeats 20000000
set_option maxRecDepth 100000
attribute [local irreducible] ZWp ZOps ZPure ZPure0 ZVal ZOp SoundF

/-! ### a cell that is put -/
def setC : List CellV → CellV → List CellV
  | [], x => [x]
  | c :: r, x => if c.1 = x.1 then x :: r else c :: setC r x
theorem setI_stD (x : CellV) : ∀ cs : List CellV, setI (stD cs) x.1 (.agg (cellD x)) = stD (setC cs x)
  | [] => rfl
  | c :: r => by
    show (if c.1 = x.1 then (c.1, D.agg (cellD x)) :: stD r else (c.1, D.agg (cellD c)) :: setI (stD r) x.1 (.agg (cellD x))) = _
    unfold setC
    split
    · rename_i h; rw [h]; rfl
    · rw [setI_stD x r]; rfl
structure StOk (v : StshV) : Prop where
  m0 : 0 ≤ v.most
  m1 : v.most ≤ 10000
  s0 : 0 ≤ v.size
  s1 : v.size ≤ 60000
  room : (v.cs.length : Int) ≤ v.most
  all : ∀ c ∈ v.cs, okC c v.size = true
  nd : v.cs.Pairwise (fun a b => a.1 ≠ b.1)
theorem blong_pf {z size : Int} (h : 0 ≤ z ∧ z ≤ 10000 ∧ 0 ≤ size ∧ size ≤ 100000) : PureF Tryd.prog 45 [.v (.int .i64 z), .v (.int .i64 size)] (.v (.int .i64 (z * (8 + size)))) :=
  PureF.of long_snd fun st K hK => ⟨z, size, rfl, h.1, h.2.1, h.2.2.1, h.2.2.2, hK⟩
theorem cok_pf {c : CellV} {size : Int} (h : True) : PureF Tryd.prog 27 [.agg (cellD c), .v (.int .i64 size)] (.v (.bool (okC c size))) :=
  PureF.of cok_snd fun st K hK => ⟨c, size, rfl, hK⟩
theorem slong_snd : SoundF Tryd.prog 31 fun args st K => ∃ (s id : Nat) (v : StshV), args = [.ptr s 0] ∧ IsStsh st s id v ∧ StOk v ∧ K (.v (.int .i64 (4 + v.most * (8 + v.size)))) st := by
  refine sound_ofA Tryd.func31 rfl Tryd.results31 ?_
  rintro w0 args st K ⟨s, id, v, rfl, ⟨hH, hN⟩, ⟨hm0, hm1, hs0, hs1, hrm, hal, hnd⟩, hK⟩
  rw [Tryd.ntmps31]; refine ⟨by simp, ?_⟩
  have hS := Sep.nil st
  have h5 : 0 ≤ v.most * (8 + v.size) := Int.mul_nonneg hm0 (by omega)
  have h6 : v.most * (8 + v.size) ≤ 10000 * 60008 := Int.mul_le_mul hm1 (by omega) (by omega) (by omega)
  (repeat (first | ((with_reducible apply zr_seq)) | ((with_reducible apply zr_region); (try simp only [List.append_eq, List.cons_append, List.nil_append])) | ((with_reducible apply zo_end)) | ((with_reducible apply zs_assign); (exact rfl); (exact rfl))))
  refine zc_begin (m := 11) ([(s, [.v (.int .i64 v.most), .v (.int .i64 v.size), .mp id])]) [] zq18 rfl ?_
  refine zc_take0 (i := 0) rfl zq18 zq18 zq18 zq18 zq12 rfl rfl (ZPure0.pure (zp_move rfl rfl)) ?_
  refine zc_take0 (i := 1) rfl zq18 zq18 zq18 zq18 zq12 rfl rfl (ZPure0.pure (zp_nilCheck rfl rfl zq14)) ?_
  refine zc_take0 (i := 2) rfl zq18 zq18 zq18 zq18 zq12 rfl rfl zq7 ?_
  refine zc_take (i := 3) rfl zq18 zq18 zq18 zq18 zq18 zq18 zq12 rfl rfl (zpb_load rfl zq15 rfl (.head _) rfl (by first | exact rfl | exact exact_orow _ _ _)) ?_
  refine zc_take0 (i := 4) rfl zq18 zq18 zq18 zq18 zq12 rfl rfl (ZPure0.pure (zp_move rfl rfl)) ?_
  refine zc_take0 (i := 5) rfl zq18 zq18 zq18 zq18 zq12 rfl rfl (ZPure0.pure (zp_nilCheck rfl rfl zq14)) ?_
  refine zc_take0 (i := 6) rfl zq18 zq18 zq18 zq18 zq12 rfl rfl zq7 ?_
  refine zc_take (i := 7) rfl zq18 zq18 zq18 zq18 zq18 zq18 zq12 rfl rfl (zpb_load rfl zq15 rfl (.head _) rfl (by first | exact rfl | exact exact_orow _ _ _)) ?_
  refine zc_one (i := 8) (fun _ => by first | assumption | (repeat (first | exact BOwn.nil _ | refine BOwn.cons zq3 ?_))) zq18 rfl zq12 (zop_callQ blong_pf cl_45 rfl rfl (by decide) rfl rfl zq9 zq4 ?_)
  refine zc_take0 (i := 9) rfl zq18 zq18 zq18 zq18 zq12 rfl rfl (ZPure0.pure (zp_add rfl rfl rfl zq13)) ?_
  refine zc_take0 (i := 10) rfl zq18 zq18 zq18 zq18 zq12 rfl rfl (ZPure0.pure (zp_assign rfl rfl)) ?_
  refine zc_end (fun _ => by first | assumption | (repeat (first | exact BOwn.nil _ | refine BOwn.cons zq3 ?_))) zq18 ?_
  (repeat (first | ((with_reducible apply zr_retZ); (exact rfl); (repeat (first | exact resD_nil _ _ _ | ((with_reducible apply resD_tmp); (exact rfl)) | ((with_reducible apply resD_cell_agg); (exact rfl); (exact sh_of rfl); (first | assumption | exact St.setH_self _ _ _ | exact Sep.at_ (i := 0) zq17 rfl | exact Sep.at_ (i := 1) zq17 rfl | exact Sep.at_ (i := 2) zq17 rfl | exact Sep.at_ (i := 3) zq17 rfl | exact Sep.at_ (i := 4) zq17 rfl | exact Sep.at_ (i := 5) zq17 rfl | exact Sep.at_ (i := 6) zq17 rfl); (exact rfl)) | ((with_reducible apply resD_cell); (exact rfl); (exact sh_of rfl); (first | assumption | exact St.setH_self _ _ _ | exact Sep.at_ (i := 0) zq17 rfl | exact Sep.at_ (i := 1) zq17 rfl | exact Sep.at_ (i := 2) zq17 rfl | exact Sep.at_ (i := 3) zq17 rfl | exact Sep.at_ (i := 4) zq17 rfl | exact Sep.at_ (i := 5) zq17 rfl | exact Sep.at_ (i := 6) zq17 rfl); (exact rfl)))); (simp only [resOf]))))
  exact KE.mk st hS.ext hK
theorem still_snd : SoundF Tryd.prog 28 fun args st K => ∃ (c : CellV), args = [.agg (cellD c)] ∧ c.2.2.length ≤ 140737488355328 ∧ K (.agg (cellD c)) st := by
  refine sound_ofA Tryd.func28 rfl Tryd.results28 ?_
  rintro w0 args st K ⟨c, rfl, hl, hK⟩
  rw [Tryd.ntmps28]; refine ⟨by simp, ?_⟩
  have hS := Sep.nil st
  (repeat (first | ((with_reducible apply (zs_sstore (i := 1))); (exact rfl); (exact rfl); (exact sh_of rfl); (assumption); (exact rfl); (first | exact rfl | (simp [cells_orow])); ((try rw [cells_orow]); (repeat (first | exact one_nil | (apply one_cons; (first | exact rfl | exact one_orow _ _ _))))); (first | exact Nat.le_of_ble_eq_true rfl | omega | (focus (simp [cellsD, msgD, nodeD, pairD, cellD]; done))); (first | (simp only [cells_orow, cD_int, cD_bool, cD_float, cD_nil, cD_ptr0, cD_str, cD_row, cD_mrow, cD_ptr, cD_ref, cD_fn, cD_agg, List.take_zero, List.take_succ_cons, List.take_nil, List.drop_succ_cons, List.drop_zero, List.drop_nil, List.nil_append, List.cons_append, List.append_nil, Nat.zero_add, Nat.reduceAdd]; exact rfl) | exact rfl); (intro sS hS); (try simp only [List.set_cons_zero, List.set_cons_succ] at hS)) | ((with_reducible apply (zs_sstore (i := 0))); (exact rfl); (exact rfl); (exact sh_of rfl); (assumption); (exact rfl); (first | exact rfl | (simp [cells_orow])); ((try rw [cells_orow]); (repeat (first | exact one_nil | (apply one_cons; (first | exact rfl | exact one_orow _ _ _))))); (first | exact Nat.le_of_ble_eq_true rfl | omega | (focus (simp [cellsD, msgD, nodeD, pairD, cellD]; done))); (first | (simp only [cells_orow, cD_int, cD_bool, cD_float, cD_nil, cD_ptr0, cD_str, cD_row, cD_mrow, cD_ptr, cD_ref, cD_fn, cD_agg, List.take_zero, List.take_succ_cons, List.take_nil, List.drop_succ_cons, List.drop_zero, List.drop_nil, List.nil_append, List.cons_append, List.append_nil, Nat.zero_add, Nat.reduceAdd]; exact rfl) | exact rfl); (intro sS hS); (try simp only [List.set_cons_zero, List.set_cons_succ] at hS)) | ((with_reducible apply zr_seq)) | ((with_reducible apply zr_region); (try simp only [List.append_eq, List.cons_append, List.nil_append])) | ((with_reducible apply zo_end)) | ((with_reducible apply zs_field_ptr); (exact rfl); (exact rfl); (exact fld_of rfl)) | ((with_reducible apply zs_load_ptr); (exact rfl); (exact rfl); (exact sh_of rfl); (first | assumption | exact St.setH_self _ _ _ | exact Sep.at_ (i := 0) zq17 rfl | exact Sep.at_ (i := 1) zq17 rfl | exact Sep.at_ (i := 2) zq17 rfl | exact Sep.at_ (i := 3) zq17 rfl | exact Sep.at_ (i := 4) zq17 rfl | exact Sep.at_ (i := 5) zq17 rfl | exact Sep.at_ (i := 6) zq17 rfl); (first | exact rfl | assumption)) | ((with_reducible apply zs_load_ptrA); (exact rfl); (exact rfl); (exact sh_of rfl); (first | assumption | exact St.setH_self _ _ _ | exact Sep.at_ (i := 0) zq17 rfl | exact Sep.at_ (i := 1) zq17 rfl | exact Sep.at_ (i := 2) zq17 rfl | exact Sep.at_ (i := 3) zq17 rfl | exact Sep.at_ (i := 4) zq17 rfl | exact Sep.at_ (i := 5) zq17 rfl | exact Sep.at_ (i := 6) zq17 rfl); (first | exact Nat.le_of_ble_eq_true rfl | exact (by decide) | (focus (simp [cellsD]; done))); (first | (simp only [cells_orow, cD_int, cD_bool, cD_float, cD_nil, cD_ptr0, cD_str, cD_row, cD_mrow, cD_ptr, cD_ref, cD_fn, cD_agg, List.take_zero, List.take_succ_cons, List.take_nil, List.drop_succ_cons, List.drop_zero, List.drop_nil, List.nil_append, List.cons_append, List.append_nil, Nat.zero_add, Nat.reduceAdd]; exact rfl) | exact rfl)) | ((with_reducible apply (zs_callQ clone_pf cl_43)); (exact rfl); (exact rfl); ((repeat (first | exact DLes.nil | (apply DLes.cons; first | exact DLe.refl _ | exact DLe.nilB | exact DLe.nilR | exact DLe.nilI)))); (first | exact trivial | assumption | ((repeat' (with_reducible refine And.intro ?_ ?_)) <;> first | assumption | omega | exact trivial | (simp; done) | (simp; omega)))) | ((with_reducible apply (zs_salloc (t := 2))); (exact rfl); (exact el_of rfl); (simp [oneD, Value.oneCell']); (assumption); (intro a2 sS hS)) | ((with_reducible apply (zs_sbox (t := 1))); (exact rfl); (exact rfl); (focus (simp [cellsD, oneD, Value.oneCell', msgD, nodeD, pairD, cellD]; done)); (assumption); (intro a1 sS hS)) | ((with_reducible apply zr_retZ); (exact rfl); (repeat (first | exact resD_nil _ _ _ | ((with_reducible apply resD_tmp); (exact rfl)) | ((with_reducible apply resD_cell_agg); (exact rfl); (exact sh_of rfl); (first | assumption | exact St.setH_self _ _ _ | exact Sep.at_ (i := 0) zq17 rfl | exact Sep.at_ (i := 1) zq17 rfl | exact Sep.at_ (i := 2) zq17 rfl | exact Sep.at_ (i := 3) zq17 rfl | exact Sep.at_ (i := 4) zq17 rfl | exact Sep.at_ (i := 5) zq17 rfl | exact Sep.at_ (i := 6) zq17 rfl); (exact rfl)) | ((with_reducible apply resD_cell); (exact rfl); (exact sh_of rfl); (first | assumption | exact St.setH_self _ _ _ | exact Sep.at_ (i := 0) zq17 rfl | exact Sep.at_ (i := 1) zq17 rfl | exact Sep.at_ (i := 2) zq17 rfl | exact Sep.at_ (i := 3) zq17 rfl | exact Sep.at_ (i := 4) zq17 rfl | exact Sep.at_ (i := 5) zq17 rfl | exact Sep.at_ (i := 6) zq17 rfl); (exact rfl)))); (simp only [resOf]))))
  exact KE.mk st hS.ext hK
theorem still_pf {c : CellV} (h : c.2.2.length ≤ 140737488355328) : PureF Tryd.prog 28 [.agg (cellD c)] (.agg (cellD c)) :=
  PureF.of still_snd fun st K hK => ⟨c, rfl, h, hK⟩
theorem zeroCell1 (G : Gh) : VR G (.agg (cellD (0, 0, []))) (.agg #[.int .i64 0, .int .i64 0, .slice none 0 0]) :=
  .agg _ [.int .i64 0, .int .i64 0, .slice none 0 0] rfl fun j d u a b => by
    match j with
    | 0 => cases a; cases b; exact .v _
    | 1 => cases a; cases b; exact .v _
    | 2 => cases a; cases b; exact .rowNil 1 0 (.inl rfl)
    | j + 3 => simp [cellD] at a
theorem lk_stD (cs : List CellV) (k : Int) : (lkI (stD cs) k).getD (.agg (cellD (0, 0, []))) = .agg (cellD ((findC cs k).getD (0, 0, []))) := by
  rw [lkI_stD]; cases findC cs k <;> rfl
theorem lk_isSome (cs : List CellV) (k : Int) : (lkI (stD cs) k).isSome = (findC cs k).isSome := by
  rw [lkI_stD]; cases findC cs k <;> rfl
def sputB (v : StshV) (c : CellV) : Bool := okC c v.size && ((findC v.cs c.1).isSome || decide ((v.cs.length : Int) < v.most))
theorem sput_snd : SoundF Tryd.prog 8 fun args st K => ∃ (s id : Nat) (v : StshV) (c : CellV), args = [.ptr s 0, .agg (cellD c)] ∧ IsStsh st s id v ∧ StOk v ∧
    K (.v (.bool (sputB v c))) (if sputB v c then st.setN id (some (mapI .i64 (stD (setC v.cs c)))) else st) := by
  refine sound_ofA Tryd.func8 rfl Tryd.results8 ?_
  rintro w0 args st K ⟨s, id, v, c, rfl, ⟨hH, hN⟩, ⟨hm0, hm1, hs0, hs1, hrm, hal, hnd⟩, hK⟩
  rw [Tryd.ntmps8]; refine ⟨by simp, ?_⟩
  have hS := Sep.nil st
  obtain ⟨zi, hzi, hzz⟩ := cell_zero
  (repeat (first | ((with_reducible apply zr_seq)) | ((with_reducible apply zr_region); (try simp only [List.append_eq, List.cons_append, List.nil_append])) | ((with_reducible apply zo_end)) | ((with_reducible apply zs_assign); (exact rfl); (exact rfl)) | ((with_reducible apply (zs_boxRef (t := 3))); (exact rfl); (exact rfl))))
  refine zr_cutK [0, 3] (fun e s' => ∃ (a : Nat) (f : List D), e = [(6, .v (.bool (findC v.cs c.1).isSome))] ∧ Zm.Sep st s' [(some a, f)]) zq8 ?_ ?_
  · refine zc_begin (m := 13) ([(s, [.v (.int .i64 v.most), .v (.int .i64 v.size), .mp id])]) [11] zq18 rfl ?_
    refine zc_take0 (i := 0) rfl zq18 zq18 zq18 zq18 zq12 rfl rfl (ZPure0.pure (zp_move rfl rfl)) ?_
    refine zc_take0 (i := 1) rfl zq18 zq18 zq18 zq18 zq12 rfl rfl (ZPure0.pure (zp_nilCheck rfl rfl zq14)) ?_
    refine zc_take0 (i := 2) rfl zq18 zq18 zq18 zq18 zq12 rfl rfl zq7 ?_
    refine zc_take (i := 3) rfl zq18 zq18 zq18 zq18 zq18 zq18 zq12 rfl rfl (zpb_load rfl zq15 rfl (.head _) rfl (by first | exact rfl | exact exact_orow _ _ _)) ?_
    refine zc_take0 (i := 4) rfl zq18 zq18 zq18 zq18 zq12 rfl rfl zq7 ?_
    refine zc_take0 (i := 5) rfl zq18 zq18 zq18 zq18 zq12 rfl rfl (zp_load_ref rfl zq15 rfl rfl) ?_
    skip
    refine zc_all2 (i := 6) (j := 10) (fun _ => by first | assumption | (repeat (first | exact BOwn.nil _ | refine BOwn.cons zq3 ?_))) zq18 ?_ ?_
    · refine zoneC_op (i := 6) (fun _ => by first | assumption | (repeat (first | exact BOwn.nil _ | refine BOwn.cons zq3 ?_))) rfl zq12 ?_
      refine ZVal.op rfl (by decide) (zv_lookOk1 rfl un_cells (un_int rfl) hzi hzz zeroCell1 rfl rfl (hS.ext.N id _ hN) (lk_stD _ _) (lk_isSome _ _) ?_)
      refine zc_take0 (i := 7) rfl zq18 zq18 zq18 zq18 zq12 rfl rfl (ZPure0.pure (zp_move rfl rfl)) ?_
      refine zc_take0 (i := 8) rfl zq18 zq18 zq18 zq18 zq12 rfl rfl (ZPure0.pure (zp_extract rfl rfl rfl)) ?_
      refine zc_take0 (i := 9) rfl zq18 zq18 zq18 zq18 zq12 rfl rfl (ZPure0.pure (zp_extract rfl rfl rfl)) ?_
      refine zc_one_val (i := 10) (fun _ => by first | assumption | (repeat (first | exact BOwn.nil _ | refine BOwn.cons zq3 ?_))) zq18 rfl zq12 rfl rfl (zv_salloc rfl (by exact el_of rfl) (by simp [oneD, Value.oneCell']) zq17 fun a5 sS hS => ?_)
      refine zc_one (i := 11) (fun _ => by first | assumption | (repeat (first | exact BOwn.nil _ | refine BOwn.cons zq3 ?_))) zq18 rfl zq12 (zop_sstore (i := 0) rfl rfl rfl rfl zq15 zq17 rfl (by first | exact rfl | simp [cells_orow]) (by ((try rw [cells_orow]); repeat (first | exact one_nil | (apply one_cons; (first | exact rfl | exact one_orow _ _ _))))) (by first | exact Nat.le_of_ble_eq_true rfl | omega | simp [cellsD, msgD, nodeD, pairD, cellD]) (by first | (simp only [cells_orow, cD_int, cD_bool, cD_float, cD_nil, cD_ptr0, cD_str, cD_row, cD_mrow, cD_ptr, cD_ref, cD_fn, cD_agg, List.take_zero, List.take_succ_cons, List.take_nil, List.drop_succ_cons, List.drop_zero, List.drop_nil, List.nil_append, List.cons_append, List.append_nil, Nat.zero_add, Nat.reduceAdd]; exact rfl) | exact rfl) fun sS hS => ?_)
      (try simp only [List.set_cons_zero, List.set_cons_succ] at hS)
      refine zc_take0 (i := 12) rfl zq18 zq18 zq18 zq18 zq12 rfl rfl (ZPure0.pure (zp_assign rfl rfl)) ?_
      refine zc_end (fun hcl_ => absurd hcl_ (by decide)) zq18 ?_
      exact ⟨_, ⟨_, _, rfl, hS⟩, zq10, zq10⟩
    · refine zoneC_op (i := 10) (fun _ => by first | assumption | (repeat (first | exact BOwn.nil _ | refine BOwn.cons zq3 ?_))) rfl zq12 ?_
      refine ZVal.op rfl (by decide) (zv_salloc rfl (by exact el_of rfl) (by simp [oneD, Value.oneCell']) hS fun a5 sS hS => ?_)
      skip
      refine zc_one_val (i := 6) (fun _ => by first | assumption | (repeat (first | exact BOwn.nil _ | refine BOwn.cons zq3 ?_))) zq18 rfl zq12 rfl rfl (zv_lookOk1 rfl un_cells (un_int rfl) hzi hzz zeroCell1 rfl rfl (hS.ext.N id _ hN) (lk_stD _ _) (lk_isSome _ _) ?_)
      refine zc_take0 (i := 7) rfl zq18 zq18 zq18 zq18 zq12 rfl rfl (ZPure0.pure (zp_move rfl rfl)) ?_
      refine zc_take0 (i := 8) rfl zq18 zq18 zq18 zq18 zq12 rfl rfl (ZPure0.pure (zp_extract rfl rfl rfl)) ?_
      refine zc_take0 (i := 9) rfl zq18 zq18 zq18 zq18 zq12 rfl rfl (ZPure0.pure (zp_extract rfl rfl rfl)) ?_
      refine zc_one (i := 11) (fun _ => by first | assumption | (repeat (first | exact BOwn.nil _ | refine BOwn.cons zq3 ?_))) zq18 rfl zq12 (zop_sstore (i := 0) rfl rfl rfl rfl zq15 zq17 rfl (by first | exact rfl | simp [cells_orow]) (by ((try rw [cells_orow]); repeat (first | exact one_nil | (apply one_cons; (first | exact rfl | exact one_orow _ _ _))))) (by first | exact Nat.le_of_ble_eq_true rfl | omega | simp [cellsD, msgD, nodeD, pairD, cellD]) (by first | (simp only [cells_orow, cD_int, cD_bool, cD_float, cD_nil, cD_ptr0, cD_str, cD_row, cD_mrow, cD_ptr, cD_ref, cD_fn, cD_agg, List.take_zero, List.take_succ_cons, List.take_nil, List.drop_succ_cons, List.drop_zero, List.drop_nil, List.nil_append, List.cons_append, List.append_nil, Nat.zero_add, Nat.reduceAdd]; exact rfl) | exact rfl) fun sS hS => ?_)
      (try simp only [List.set_cons_zero, List.set_cons_succ] at hS)
      refine zc_take0 (i := 12) rfl zq18 zq18 zq18 zq18 zq12 rfl rfl (ZPure0.pure (zp_assign rfl rfl)) ?_
      refine zc_end (fun hcl_ => absurd hcl_ (by decide)) zq18 ?_
      exact ⟨_, ⟨_, _, rfl, hS⟩, zq10, zq10⟩
  rintro e s' ⟨a5, f5, rfl, hS⟩
  have hH2 := hS.ext.H s _ hH
  have hN2 := hS.ext.N id _ hN
  have hlen : c.2.2.length ≤ 140737488355328 ∨ okC c v.size = false := by
    cases h : okC c v.size with
    | false => exact .inr rfl
    | true => exact .inl (by have := (okC_bounds h).2.2.2.2; omega)
  (repeat (first | ((with_reducible apply zr_seq))))
  refine zr_cutK [0, 3] (fun e s' => e = [(39, .v (.bool (!sputB v c)))] ∧ Zm.Sep st s' [(some a5, f5)]) zq8 ?_ ?_
  · cases hok : okC c v.size with
    | false =>
      rw [show sputB v c = false by unfold sputB; rw [hok]; rfl]
      refine zc_begin (m := 23) ([(s, [.v (.int .i64 v.most), .v (.int .i64 v.size), .mp id])]) [] zq18 rfl ?_
      refine zc_take0 (i := 0) rfl zq18 zq18 zq18 zq18 zq12 rfl rfl (zp_load_refAll rfl zq15 rfl rfl) ?_
      refine zc_take0 (i := 1) rfl zq18 zq18 zq18 zq18 zq12 rfl rfl (ZPure0.pure (zp_move rfl rfl)) ?_
      refine zc_take0 (i := 2) rfl zq18 zq18 zq18 zq18 zq12 rfl rfl (ZPure0.pure (zp_nilCheck rfl rfl zq14)) ?_
      refine zc_take0 (i := 3) rfl zq18 zq18 zq18 zq18 zq12 rfl rfl zq7 ?_
      refine zc_take (i := 4) rfl zq18 zq18 zq18 zq18 zq18 zq18 zq12 rfl rfl (zpb_load rfl zq15 rfl (.head _) rfl (by first | exact rfl | exact exact_orow _ _ _)) ?_
      refine zc_one (i := 5) (fun _ => by first | assumption | (repeat (first | exact BOwn.nil _ | refine BOwn.cons zq3 ?_))) zq18 rfl zq12 (zop_callQ cok_pf cl_27 rfl rfl (by decide) rfl rfl zq9 zq4 ?_)
      refine zc_take0 (i := 6) rfl zq18 zq18 zq18 zq18 zq12 rfl rfl (ZPure0.pure (zp_not rfl rfl)) ?_
      refine zc_take0 (i := 7) rfl zq18 zq18 zq18 zq18 zq12 rfl rfl (ZPure0.pure (zp_move rfl rfl)) ?_
      skip
      rw [hok]
      refine zc_notU (i := 8) rfl zq18 zq18 zq18 zq18 zq5 rfl ?_
      refine zc_notU (i := 9) rfl zq18 zq18 zq18 zq18 zq5 rfl ?_
      refine zc_notU (i := 10) rfl zq18 zq18 zq18 zq18 zq5 rfl ?_
      refine zc_notU (i := 11) rfl zq18 zq18 zq18 zq18 zq5 rfl ?_
      refine zc_notU (i := 12) rfl zq18 zq18 zq18 zq18 zq5 rfl ?_
      refine zc_notU (i := 13) rfl zq18 zq18 zq18 zq18 zq5 rfl ?_
      refine zc_notU (i := 14) rfl zq18 zq18 zq18 zq18 zq5 rfl ?_
      refine zc_notU (i := 16) rfl zq18 zq18 zq18 zq18 zq5 rfl ?_
      refine zc_notU (i := 17) rfl zq18 zq18 zq18 zq18 zq5 rfl ?_
      refine zc_notU (i := 18) rfl zq18 zq18 zq18 zq18 zq5 rfl ?_
      refine zc_notU (i := 19) rfl zq18 zq18 zq18 zq18 zq5 rfl ?_
      skip
      refine zc_notU (i := 15) rfl zq18 zq18 zq18 zq18 zq5 rfl ?_
      refine zc_notU (i := 20) rfl zq18 zq18 zq18 zq18 zq5 rfl ?_
      refine zc_notU (i := 21) rfl zq18 zq18 zq18 zq18 zq5 rfl ?_
      refine zc_take0 (i := 22) rfl zq18 zq18 zq18 zq18 zq12 rfl rfl zq6 ?_
      refine zc_end (fun _ => by first | assumption | (repeat (first | exact BOwn.nil _ | refine BOwn.cons zq3 ?_))) zq18 ?_
      exact ⟨_, ⟨rfl, hS⟩, zq10, zq10⟩
    | true =>
      rw [show sputB v c = ((findC v.cs c.1).isSome || decide ((v.cs.length : Int) < v.most)) by unfold sputB; rw [hok]; rfl]
      cases hth : (findC v.cs c.1).isSome with
      | true =>
        refine zc_begin (m := 23) ([(s, [.v (.int .i64 v.most), .v (.int .i64 v.size), .mp id])]) [] zq18 rfl ?_
        refine zc_take0 (i := 0) rfl zq18 zq18 zq18 zq18 zq12 rfl rfl (zp_load_refAll rfl zq15 rfl rfl) ?_
        refine zc_take0 (i := 1) rfl zq18 zq18 zq18 zq18 zq12 rfl rfl (ZPure0.pure (zp_move rfl rfl)) ?_
        refine zc_take0 (i := 2) rfl zq18 zq18 zq18 zq18 zq12 rfl rfl (ZPure0.pure (zp_nilCheck rfl rfl zq14)) ?_
        refine zc_take0 (i := 3) rfl zq18 zq18 zq18 zq18 zq12 rfl rfl zq7 ?_
        refine zc_take (i := 4) rfl zq18 zq18 zq18 zq18 zq18 zq18 zq12 rfl rfl (zpb_load rfl zq15 rfl (.head _) rfl (by first | exact rfl | exact exact_orow _ _ _)) ?_
        refine zc_one (i := 5) (fun _ => by first | assumption | (repeat (first | exact BOwn.nil _ | refine BOwn.cons zq3 ?_))) zq18 rfl zq12 (zop_callQ cok_pf cl_27 rfl rfl (by decide) rfl rfl zq9 zq4 ?_)
        refine zc_take0 (i := 6) rfl zq18 zq18 zq18 zq18 zq12 rfl rfl (ZPure0.pure (zp_not rfl rfl)) ?_
        refine zc_take0 (i := 7) rfl zq18 zq18 zq18 zq18 zq12 rfl rfl (ZPure0.pure (zp_move rfl rfl)) ?_
        skip
        rw [hok]
        refine zc_take0 (i := 8) rfl zq18 zq18 zq18 zq18 zq12 rfl rfl (ZPure0.pure (zp_move rfl rfl)) ?_
        refine zc_take0 (i := 9) rfl zq18 zq18 zq18 zq18 zq12 rfl rfl (ZPure0.pure (zp_not rfl rfl)) ?_
        refine zc_take0 (i := 10) rfl zq18 zq18 zq18 zq18 zq12 rfl rfl (ZPure0.pure (zp_move rfl rfl)) ?_
        refine zc_notU (i := 11) rfl zq18 zq18 zq18 zq18 zq5 rfl ?_
        refine zc_notU (i := 12) rfl zq18 zq18 zq18 zq18 zq5 rfl ?_
        refine zc_notU (i := 13) rfl zq18 zq18 zq18 zq18 zq5 rfl ?_
        refine zc_notU (i := 14) rfl zq18 zq18 zq18 zq18 zq5 rfl ?_
        refine zc_notU (i := 16) rfl zq18 zq18 zq18 zq18 zq5 rfl ?_
        refine zc_notU (i := 17) rfl zq18 zq18 zq18 zq18 zq5 rfl ?_
        refine zc_notU (i := 18) rfl zq18 zq18 zq18 zq18 zq5 rfl ?_
        refine zc_notU (i := 19) rfl zq18 zq18 zq18 zq18 zq5 rfl ?_
        skip
        refine zc_notU (i := 15) rfl zq18 zq18 zq18 zq18 zq5 rfl ?_
        refine zc_notU (i := 20) rfl zq18 zq18 zq18 zq18 zq5 rfl ?_
        refine zc_take0 (i := 21) rfl zq18 zq18 zq18 zq18 zq12 rfl rfl zq6 ?_
        refine zc_take0 (i := 22) rfl zq18 zq18 zq18 zq18 zq12 rfl rfl zq6 ?_
        refine zc_end (fun _ => by first | assumption | (repeat (first | exact BOwn.nil _ | refine BOwn.cons zq3 ?_))) zq18 ?_
        exact ⟨_, ⟨rfl, hS⟩, zq10, zq10⟩
      | false =>
        refine zc_begin (m := 23) ([(s, [.v (.int .i64 v.most), .v (.int .i64 v.size), .mp id])]) [] zq18 rfl ?_
        refine zc_take0 (i := 0) rfl zq18 zq18 zq18 zq18 zq12 rfl rfl (zp_load_refAll rfl zq15 rfl rfl) ?_
        refine zc_take0 (i := 1) rfl zq18 zq18 zq18 zq18 zq12 rfl rfl (ZPure0.pure (zp_move rfl rfl)) ?_
        refine zc_take0 (i := 2) rfl zq18 zq18 zq18 zq18 zq12 rfl rfl (ZPure0.pure (zp_nilCheck rfl rfl zq14)) ?_
        refine zc_take0 (i := 3) rfl zq18 zq18 zq18 zq18 zq12 rfl rfl zq7 ?_
        refine zc_take (i := 4) rfl zq18 zq18 zq18 zq18 zq18 zq18 zq12 rfl rfl (zpb_load rfl zq15 rfl (.head _) rfl (by first | exact rfl | exact exact_orow _ _ _)) ?_
        refine zc_one (i := 5) (fun _ => by first | assumption | (repeat (first | exact BOwn.nil _ | refine BOwn.cons zq3 ?_))) zq18 rfl zq12 (zop_callQ cok_pf cl_27 rfl rfl (by decide) rfl rfl zq9 zq4 ?_)
        refine zc_take0 (i := 6) rfl zq18 zq18 zq18 zq18 zq12 rfl rfl (ZPure0.pure (zp_not rfl rfl)) ?_
        refine zc_take0 (i := 7) rfl zq18 zq18 zq18 zq18 zq12 rfl rfl (ZPure0.pure (zp_move rfl rfl)) ?_
        skip
        rw [hok]
        refine zc_take0 (i := 8) rfl zq18 zq18 zq18 zq18 zq12 rfl rfl (ZPure0.pure (zp_move rfl rfl)) ?_
        refine zc_take0 (i := 9) rfl zq18 zq18 zq18 zq18 zq12 rfl rfl (ZPure0.pure (zp_not rfl rfl)) ?_
        refine zc_take0 (i := 10) rfl zq18 zq18 zq18 zq18 zq12 rfl rfl (ZPure0.pure (zp_move rfl rfl)) ?_
        refine zc_take0 (i := 11) rfl zq18 zq18 zq18 zq18 zq12 rfl rfl (ZPure0.pure (zp_move rfl rfl)) ?_
        refine zc_take0 (i := 12) rfl zq18 zq18 zq18 zq18 zq12 rfl rfl (ZPure0.pure (zp_nilCheck rfl rfl zq14)) ?_
        refine zc_take0 (i := 13) rfl zq18 zq18 zq18 zq18 zq12 rfl rfl zq7 ?_
        refine zc_take (i := 14) rfl zq18 zq18 zq18 zq18 zq18 zq18 zq12 rfl rfl (zpb_load rfl zq15 rfl (.head _) rfl (by first | exact rfl | exact exact_orow _ _ _)) ?_
        refine zc_take0 (i := 16) rfl zq18 zq18 zq18 zq18 zq12 rfl rfl (ZPure0.pure (zp_move rfl rfl)) ?_
        refine zc_take0 (i := 17) rfl zq18 zq18 zq18 zq18 zq12 rfl rfl (ZPure0.pure (zp_nilCheck rfl rfl zq14)) ?_
        refine zc_take0 (i := 18) rfl zq18 zq18 zq18 zq18 zq12 rfl rfl zq7 ?_
        refine zc_take (i := 19) rfl zq18 zq18 zq18 zq18 zq18 zq18 zq12 rfl rfl (zpb_load rfl zq15 rfl (.head _) rfl (by first | exact rfl | exact exact_orow _ _ _)) ?_
        skip
        refine zc_one_val (i := 15) (fun _ => by first | assumption | (repeat (first | exact BOwn.nil _ | refine BOwn.cons zq3 ?_))) zq18 rfl zq12 rfl rfl (zv_mapLen rfl un_cells rfl (hS.ext.N id _ hN) ?_)
        rw [mapI_len, stD_len]
        refine zc_take0 (i := 20) rfl zq18 zq18 zq18 zq18 zq12 rfl rfl (ZPure0.pure (zp_geq rfl rfl rfl)) ?_
        refine zc_take0 (i := 21) rfl zq18 zq18 zq18 zq18 zq12 rfl rfl zq6 ?_
        refine zc_take0 (i := 22) rfl zq18 zq18 zq18 zq18 zq12 rfl rfl zq6 ?_
        refine zc_end (fun _ => by first | assumption | (repeat (first | exact BOwn.nil _ | refine BOwn.cons zq3 ?_))) zq18 ?_
        rw [show decide (v.most ≤ (v.cs.length : Int)) = !decide ((v.cs.length : Int) < v.most) by rw [← decide_not]; exact decide_eq_decide.2 (by omega)]
        exact ⟨_, ⟨rfl, hS⟩, zq10, zq10⟩
  rintro e s2 ⟨rfl, hS⟩
  have hH2 := hS.ext.H s _ hH
  have hN2 := hS.ext.N id _ hN
  cases hput : sputB v c with
  | false =>
    rw [hput] at hK
    (repeat (first | ((with_reducible apply zr_seq)) | ((with_reducible apply zr_region); (try simp only [List.append_eq, List.cons_append, List.nil_append])) | ((with_reducible apply zo_end)) | ((with_reducible apply zs_assign); (exact rfl); (exact rfl)) | ((with_reducible apply zr_cond_t); (exact rfl); (first | assumption | exact rfl)) | ((with_reducible apply zr_retZ); (exact rfl); (repeat (first | exact resD_nil _ _ _ | ((with_reducible apply resD_tmp); (exact rfl)) | ((with_reducible apply resD_cell_agg); (exact rfl); (exact sh_of rfl); (first | assumption | exact St.setH_self _ _ _ | exact Sep.at_ (i := 0) zq17 rfl | exact Sep.at_ (i := 1) zq17 rfl | exact Sep.at_ (i := 2) zq17 rfl | exact Sep.at_ (i := 3) zq17 rfl | exact Sep.at_ (i := 4) zq17 rfl | exact Sep.at_ (i := 5) zq17 rfl | exact Sep.at_ (i := 6) zq17 rfl); (exact rfl)) | ((with_reducible apply resD_cell); (exact rfl); (exact sh_of rfl); (first | assumption | exact St.setH_self _ _ _ | exact Sep.at_ (i := 0) zq17 rfl | exact Sep.at_ (i := 1) zq17 rfl | exact Sep.at_ (i := 2) zq17 rfl | exact Sep.at_ (i := 3) zq17 rfl | exact Sep.at_ (i := 4) zq17 rfl | exact Sep.at_ (i := 5) zq17 rfl | exact Sep.at_ (i := 6) zq17 rfl); (exact rfl)))); (simp only [resOf]))))
    exact KE.mk _ hS.ext hK
  | true =>
    rw [hput] at hK
    have hlen2 : c.2.2.length ≤ 140737488355328 := by
      rcases hlen with h | h
      · exact h
      · unfold sputB at hput; rw [h] at hput; cases hput
    (repeat (first | ((with_reducible apply zr_seq)) | ((with_reducible apply zr_cond_f); (exact rfl); (first | assumption | exact rfl)) | ((with_reducible apply zr_skip'))))
    refine zc_begin (m := 9) ([(s, [.v (.int .i64 v.most), .v (.int .i64 v.size), .mp id])]) [] zq18 rfl ?_
    refine zc_take0 (i := 0) rfl zq18 zq18 zq18 zq18 zq12 rfl rfl (ZPure0.pure (zp_move rfl rfl)) ?_
    refine zc_take0 (i := 1) rfl zq18 zq18 zq18 zq18 zq12 rfl rfl (ZPure0.pure (zp_nilCheck rfl rfl zq14)) ?_
    refine zc_take0 (i := 2) rfl zq18 zq18 zq18 zq18 zq12 rfl rfl zq7 ?_
    refine zc_take (i := 3) rfl zq18 zq18 zq18 zq18 zq18 zq18 zq12 rfl rfl (zpb_load rfl zq15 rfl (.head _) rfl (by first | exact rfl | exact exact_orow _ _ _)) ?_
    refine zc_take0 (i := 4) rfl zq18 zq18 zq18 zq18 zq12 rfl rfl zq7 ?_
    refine zc_take0 (i := 5) rfl zq18 zq18 zq18 zq18 zq12 rfl rfl (zp_load_ref rfl zq15 rfl rfl) ?_
    refine zc_take0 (i := 6) rfl zq18 zq18 zq18 zq18 zq12 rfl rfl (zp_load_refAll rfl zq15 rfl rfl) ?_
    refine zc_one (i := 7) (fun _ => by first | assumption | (repeat (first | exact BOwn.nil _ | refine BOwn.cons zq3 ?_))) zq18 rfl zq12 (zop_callQ still_pf cl_28 rfl rfl (by decide) rfl rfl zq9 zq4 ?_)
    skip
    refine zc_one (i := 8) (fun _ => by first | assumption | (repeat (first | exact BOwn.nil _ | refine BOwn.cons zq3 ?_))) zq18 rfl zq12 (zop_mapSet rfl rfl un_cells (un_int rfl) rfl rfl rfl (hS.ext.N id _ hN) ?_)
    rw [setI_stD]
    replace hS := hS.reN id (some (mapI .i64 (stD (setC v.cs c))))
    clear hH2 hN2
    have hH3 := hS.ext.H s _ hH
    refine zc_end (fun _ => by first | assumption | (repeat (first | exact BOwn.nil _ | refine BOwn.cons zq3 ?_))) zq18 ?_
    (repeat (first | ((with_reducible apply zr_seq)) | ((with_reducible apply zr_region); (try simp only [List.append_eq, List.cons_append, List.nil_append])) | ((with_reducible apply zo_end)) | ((with_reducible apply zs_assign); (exact rfl); (exact rfl)) | ((with_reducible apply zr_retZ); (exact rfl); (repeat (first | exact resD_nil _ _ _ | ((with_reducible apply resD_tmp); (exact rfl)) | ((with_reducible apply resD_cell_agg); (exact rfl); (exact sh_of rfl); (first | assumption | exact St.setH_self _ _ _ | exact Sep.at_ (i := 0) zq17 rfl | exact Sep.at_ (i := 1) zq17 rfl | exact Sep.at_ (i := 2) zq17 rfl | exact Sep.at_ (i := 3) zq17 rfl | exact Sep.at_ (i := 4) zq17 rfl | exact Sep.at_ (i := 5) zq17 rfl | exact Sep.at_ (i := 6) zq17 rfl); (exact rfl)) | ((with_reducible apply resD_cell); (exact rfl); (exact sh_of rfl); (first | assumption | exact St.setH_self _ _ _ | exact Sep.at_ (i := 0) zq17 rfl | exact Sep.at_ (i := 1) zq17 rfl | exact Sep.at_ (i := 2) zq17 rfl | exact Sep.at_ (i := 3) zq17 rfl | exact Sep.at_ (i := 4) zq17 rfl | exact Sep.at_ (i := 5) zq17 rfl | exact Sep.at_ (i := 6) zq17 rfl); (exact rfl)))); (simp only [resOf]))))
    exact KE.mk _ hS.ext hK
end Go.Proofs.ZtLe
namespace Go.Proofs.ZtLe
open Go.RowKit Go.Proofs Go.Proofs.Zm Go.Shelf
set_option linter.unusedVariables false
set_option linter.unusedSimpArgs false

/-! ### the library's contracts at this program: maps.Keys, slices.Sorted, slices.Sort (printed by the kit's lay-plain) -/
def lay_keysA_ren : Go.Shelf.Ren := ⟨fun | 7 => 36 | 10 => 52 | n => n, fun | 23 => 57 | 26 => 3 | 3 => 29 | 28 => 70 | 0 => 0 | 27 => 69 | 33 => 82 | 4 => 4 | n => n, fun | n => n⟩
theorem lay_keysA : Go.Proofs.SlLaysZI.n7 Tryd.prog lay_keysA_ren := {
  mixed := by kernel_rfl
  f7 := ⟨Tryd.f36.name, by decide, Tryd.func36.trans (congrArg some zq18)⟩
  f10 := ⟨Tryd.f52.name, by decide, Tryd.func52.trans (congrArg some zq18)⟩
  t0 := Tryd.underlying0
  a0 := Tryd.isAgg0
  z0 := Tryd.sizeOf0
  v0 := Tryd.zeroValue0
  t4 := Tryd.underlying4
  a4 := Tryd.isAgg4
  z4 := Tryd.sizeOf4
  v4 := Tryd.zeroValue4
  t23 := Tryd.underlying57
  a23 := Tryd.isAgg57
  z23 := Tryd.sizeOf57
  v23 := Tryd.zeroValue57
  t26 := Tryd.underlying3
  a26 := Tryd.isAgg3
  z26 := Tryd.sizeOf3
  v26 := Tryd.zeroValue3
  t27 := Tryd.underlying69
  a27 := Tryd.isAgg69
  z27 := Tryd.sizeOf69
  v27 := Tryd.zeroValue69
  t28 := Tryd.underlying70
  a28 := Tryd.isAgg70
  z28 := Tryd.sizeOf70
  v28 := Tryd.zeroValue70
  t33 := Tryd.underlying82
  a33 := Tryd.isAgg82
  z33 := Tryd.sizeOf82
  v33 := Tryd.zeroValue82 }
def lay_sortedA_ren : Go.Shelf.Ren := ⟨fun | 6 => 35 | 8 => 50 | 9 => 51 | 11 => 62 | 13 => 48 | 12 => 63 | 23 => 60 | 24 => 61 | 14 => 66 | 15 => 67 | 16 => 68 | 17 => 69 | 18 => 70 | 19 => 71 | 20 => 72 | 21 => 73 | 22 => 74 | 25 => 75 | 26 => 76 | 27 => 77 | 28 => 78 | 29 => 79 | 30 => 80 | 31 => 81 | n => n, fun | 26 => 3 | 28 => 70 | 24 => 22 | 0 => 0 | 3 => 3 | 37 => 26 | 48 => 87 | 50 => 63 | 4 => 4 | 40 => 93 | 39 => 92 | 45 => 65 | 5 => 5 | 9 => 9 | 51 => 100 | 55 => 104 | 57 => 106 | 58 => 107 | 33 => 82 | n => n, fun | n => n⟩
theorem lay_sortedA : Go.Proofs.SlLaysZI.n6 Tryd.prog lay_sortedA_ren := {
  mixed := by kernel_rfl
  f6 := ⟨Tryd.f35.name, by decide, Tryd.func35.trans (congrArg some zq18)⟩
  f8 := ⟨Tryd.f50.name, by decide, Tryd.func50.trans (congrArg some zq18)⟩
  f11 := ⟨Tryd.f62.name, by decide, Tryd.func62.trans (congrArg some zq18)⟩
  t0 := Tryd.underlying0
  a0 := Tryd.isAgg0
  z0 := Tryd.sizeOf0
  v0 := Tryd.zeroValue0
  t24 := Tryd.underlying22
  a24 := Tryd.isAgg22
  z24 := Tryd.sizeOf22
  v24 := Tryd.zeroValue22
  t26 := Tryd.underlying3
  a26 := Tryd.isAgg3
  z26 := Tryd.sizeOf3
  v26 := Tryd.zeroValue3
  t28 := Tryd.underlying70
  a28 := Tryd.isAgg70
  z28 := Tryd.sizeOf70
  v28 := Tryd.zeroValue70
  i26 := by kernel_rfl }
def lay_sortA_ren : Go.Shelf.Ren := ⟨fun | 5 => 51 | 8 => 48 | 7 => 63 | 19 => 60 | 20 => 61 | 10 => 66 | 11 => 67 | 12 => 68 | 13 => 69 | 14 => 70 | 15 => 71 | 16 => 72 | 17 => 73 | 18 => 74 | 30 => 75 | 31 => 76 | 32 => 77 | 33 => 78 | 34 => 79 | 35 => 80 | 40 => 81 | n => n, fun | 23 => 22 | 25 => 3 | 3 => 3 | 32 => 26 | 22 => 22 | 0 => 0 | 44 => 87 | 46 => 63 | 4 => 4 | 36 => 93 | 35 => 92 | 41 => 65 | 5 => 5 | 9 => 9 | 53 => 100 | 57 => 104 | 63 => 106 | 64 => 107 | n => n, fun | n => n⟩
theorem lay_sortA : Go.Proofs.SlLaysM.n5 Tryd.prog lay_sortA_ren := {
  mixed := by kernel_rfl
  f5 := ⟨Tryd.f51.name, by decide, Tryd.func51.trans (congrArg some zq18)⟩
  f7 := ⟨Tryd.f63.name, by decide, Tryd.func63.trans (congrArg some zq18)⟩
  f8 := Tryd.func48.trans (congrArg some zq18)
  f10 := ⟨Tryd.f66.name, by decide, Tryd.func66.trans (congrArg some zq18)⟩
  f11 := ⟨Tryd.f67.name, by decide, Tryd.func67.trans (congrArg some zq18)⟩
  f12 := ⟨Tryd.f68.name, by decide, Tryd.func68.trans (congrArg some zq18)⟩
  f13 := ⟨Tryd.f69.name, by decide, Tryd.func69.trans (congrArg some zq18)⟩
  f14 := ⟨Tryd.f70.name, by decide, Tryd.func70.trans (congrArg some zq18)⟩
  f15 := ⟨Tryd.f71.name, by decide, Tryd.func71.trans (congrArg some zq18)⟩
  f16 := ⟨Tryd.f72.name, by decide, Tryd.func72.trans (congrArg some zq18)⟩
  f17 := ⟨Tryd.f73.name, by decide, Tryd.func73.trans (congrArg some zq18)⟩
  f18 := ⟨Tryd.f74.name, by decide, Tryd.func74.trans (congrArg some zq18)⟩
  f19 := Tryd.func60.trans (congrArg some zq18)
  f20 := Tryd.func61.trans (congrArg some zq18)
  f30 := ⟨Tryd.f75.name, by decide, Tryd.func75.trans (congrArg some zq18)⟩
  f31 := Tryd.func76.trans (congrArg some zq18)
  f32 := Tryd.func77.trans (congrArg some zq18)
  f33 := ⟨Tryd.f78.name, by decide, Tryd.func78.trans (congrArg some zq18)⟩
  f34 := ⟨Tryd.f79.name, by decide, Tryd.func79.trans (congrArg some zq18)⟩
  f35 := ⟨Tryd.f80.name, by decide, Tryd.func80.trans (congrArg some zq18)⟩
  f40 := ⟨Tryd.f81.name, by decide, Tryd.func81.trans (congrArg some zq18)⟩
  t0 := Tryd.underlying0
  a0 := Tryd.isAgg0
  z0 := Tryd.sizeOf0
  v0 := Tryd.zeroValue0
  t3 := Tryd.underlying3
  a3 := Tryd.isAgg3
  z3 := Tryd.sizeOf3
  v3 := Tryd.zeroValue3
  t4 := Tryd.underlying4
  a4 := Tryd.isAgg4
  z4 := Tryd.sizeOf4
  v4 := Tryd.zeroValue4
  t5 := Tryd.underlying5
  a5 := Tryd.isAgg5
  z5 := Tryd.sizeOf5
  v5 := Tryd.zeroValue5
  t9 := Tryd.underlying9
  a9 := Tryd.isAgg9
  z9 := Tryd.sizeOf9
  v9 := Tryd.zeroValue9
  t22 := Tryd.underlying22
  a22 := Tryd.isAgg22
  z22 := Tryd.sizeOf22
  v22 := Tryd.zeroValue22
  t23 := Tryd.underlying22
  a23 := Tryd.isAgg22
  z23 := Tryd.sizeOf22
  v23 := Tryd.zeroValue22
  t25 := Tryd.underlying3
  a25 := Tryd.isAgg3
  z25 := Tryd.sizeOf3
  v25 := Tryd.zeroValue3
  t32 := Tryd.underlying26
  a32 := Tryd.isAgg26
  z32 := Tryd.sizeOf26
  v32 := Tryd.zeroValue26
  t35 := Tryd.underlying92
  a35 := Tryd.isAgg92
  z35 := Tryd.sizeOf92
  v35 := Tryd.zeroValue92
  t36 := Tryd.underlying93
  a36 := Tryd.isAgg93
  z36 := Tryd.sizeOf93
  v36 := Tryd.zeroValue93
  t41 := Tryd.underlying65
  a41 := Tryd.isAgg65
  z41 := Tryd.sizeOf65
  v41 := Tryd.zeroValue65
  t44 := Tryd.underlying87
  a44 := Tryd.isAgg87
  z44 := Tryd.sizeOf87
  v44 := Tryd.zeroValue87
  t46 := Tryd.underlying63
  a46 := Tryd.isAgg63
  z46 := Tryd.sizeOf63
  v46 := Tryd.zeroValue63
  t53 := Tryd.underlying100
  a53 := Tryd.isAgg100
  z53 := Tryd.sizeOf100
  v53 := Tryd.zeroValue100
  t57 := Tryd.underlying104
  a57 := Tryd.isAgg104
  z57 := Tryd.sizeOf104
  v57 := Tryd.zeroValue104
  t63 := Tryd.underlying106
  a63 := Tryd.isAgg106
  z63 := Tryd.sizeOf106
  v63 := Tryd.zeroValue106
  t64 := Tryd.underlying107
  a64 := Tryd.isAgg107
  z64 := Tryd.sizeOf107
  v64 := Tryd.zeroValue107 }
end Go.Proofs.ZtLe
namespace Go.Proofs.ZtLe
open Go.RowKit Go.Proofs Go.Proofs.Zm Go.Maps Go.Sort Go.Shelf
set_option linter.unusedVariables false
set_option linter.unusedSimpArgs false
set_option maxHeartbeats 20000000
set_option maxRecDepth 100000
attribute [local irreducible] ZWp ZOps ZPure ZPure0 ZVal ZOp SoundF

/-! ### a stash's IDs -/
theorem keys_snd : SoundF Tryd.prog 36 fun args st K => ∃ (id : Nat), args = [.mp id] ∧
    ∀ a st', Ext st st' → st'.H a = some [.mp id] → K (.fn 52 [.ptr a 0]) st' := by
  refine sound_ofA Tryd.func36 rfl Tryd.results36 ?_
  rintro w0 args st K ⟨id, rfl, hK⟩
  rw [Tryd.ntmps36]; refine ⟨by simp, ?_⟩
  have hS := Sep.nil st
  (repeat (first | ((with_reducible apply zr_seq)) | ((with_reducible apply zr_region); (try simp only [List.append_eq, List.cons_append, List.nil_append])) | ((with_reducible apply zo_end)) | ((with_reducible apply zs_assign); (exact rfl); (exact rfl)) | ((with_reducible apply (zs_sbox (t := 1))); (exact rfl); (exact rfl); (focus (simp [cellsD, oneD, Value.oneCell', msgD, nodeD, pairD, cellD]; done)); (assumption); (intro a1 sS hS))))
  (try ((with_reducible apply zs_yes); exact rfl; exact rfl; (first | assumption | exact rfl))); refine zo_pure0 rfl rfl (by decide) (zp_makeFunc rfl rfl rfl) ?_
  (repeat (first | ((with_reducible apply zo_end)) | ((with_reducible apply zs_assign); (exact rfl); (exact rfl)) | ((with_reducible apply zr_retZ); (exact rfl); (repeat (first | exact resD_nil _ _ _ | ((with_reducible apply resD_tmp); (exact rfl)) | ((with_reducible apply resD_cell_agg); (exact rfl); (exact sh_of rfl); (first | assumption | exact St.setH_self _ _ _ | exact Sep.at_ (i := 0) zq17 rfl | exact Sep.at_ (i := 1) zq17 rfl | exact Sep.at_ (i := 2) zq17 rfl | exact Sep.at_ (i := 3) zq17 rfl | exact Sep.at_ (i := 4) zq17 rfl | exact Sep.at_ (i := 5) zq17 rfl | exact Sep.at_ (i := 6) zq17 rfl); (exact rfl)) | ((with_reducible apply resD_cell); (exact rfl); (exact sh_of rfl); (first | assumption | exact St.setH_self _ _ _ | exact Sep.at_ (i := 0) zq17 rfl | exact Sep.at_ (i := 1) zq17 rfl | exact Sep.at_ (i := 2) zq17 rfl | exact Sep.at_ (i := 3) zq17 rfl | exact Sep.at_ (i := 4) zq17 rfl | exact Sep.at_ (i := 5) zq17 rfl | exact Sep.at_ (i := 6) zq17 rfl); (exact rfl)))); (simp only [resOf]))))
  exact KE.mk sS (Ext.refl _) (hK a1 sS hS.ext (hS.at_ (i := 0) rfl))
def sortI (l : List Int) : List Int := l.mergeSort leI
def mapR : Value → Option (DataW Unit × List MemPlace) := fun _ => some (.nil, [])
theorem sorts_pf (m : Nat) : AnyZI.SortsIn Tryd.prog lay_sortedA_ren Fence.wide m :=
  ⟨fun blk off cap ss W hH hblk hsz => callsIn_wide.2 (AnyM.slices_Sort_int lay_sortA blk off cap ss W hH hblk hsz),
   fun p cap W => callsIn_wide.2 (AnyM.slices_Sort_int_none lay_sortA p cap W)⟩
theorem sorted_snd : SoundF Tryd.prog 35 fun args st K => ∃ (a id : Nat) (l : List (Int × D)), args = [.fn 52 [.ptr a 0]] ∧ st.H a = some [.mp id] ∧ st.N id = some (mapI .i64 l) ∧
    (∀ p ∈ l, (Lit.int .i64 p.1).wf = true) ∧ l.length ≤ 1000000 ∧ K (.row (intR (sortI (l.map (·.1)))) 1 0) st := by
  unfold SoundF
  rintro w0 args st K ⟨a, id, l, rfl, hH, hN, hr, hl, hK⟩ G w vals hrel hv
  obtain ⟨u, rfl⟩ : ∃ u, vals = [u] := by
    match vals, hv.1 with
    | [u], _ => exact ⟨u, rfl⟩
  have hvu := hv.2 0 _ _ rfl rfl
  cases hvu with
  | fn _ _ us hul huv =>
  obtain ⟨p, rfl⟩ : ∃ p, us = [p] := by
    match us, hul with
    | [p], _ => exact ⟨p, rfl⟩
  have hp := huv 0 _ _ rfl rfl
  cases hp with
  | ptr _ _ hid =>
  obtain ⟨c, e, hc, hcl, hc1, hcv⟩ := hrel.ex a _ hH
  obtain ⟨q, hq⟩ : ∃ q, c[0]? = some q := ⟨_, List.getElem?_eq_getElem (by simp at hcl; omega)⟩
  have hqv := hcv 0 _ q rfl hq
  cases hqv with
  | mp _ hid2 =>
  obtain ⟨es, clock, hb, ⟨hel, hee⟩, hs⟩ := hrel.mp.ex id _ hN
  have hcell : w.cell? ⟨G.rho a, 0, none⟩ = some (.map (some (G.rho id))) := by rw [cell_heap hc]; exact hq
  have hsz : es.toList.length = l.length := by rw [← hel, mapI_len]
  have hrd : ∀ (j : Nat) (x : MapEntry) (pr : Int × D), es.toList[j]? = some x → l[j]? = some pr → Go.WideElems.rd Tryd.prog 3 mapR x = some (.int .i64 pr.1, .nil) := fun j x pr hj hpr => by
    have h1 := hee j (.int .i64 pr.1) pr.2 x (by simp [mapI, hpr]) hj
    have hk := keyOf_int_mk (P := Tryd.prog) (k := 3) (un_int rfl) (hr pr (List.mem_of_getElem? hpr))
    unfold Go.WideElems.rd; rw [h1.1, hk]; rfl
  have hsz0 : es.size = l.length := by simpa using hsz
  have hsz1 : es.size ≤ maxLen := by unfold maxLen; omega
  have hsz2 : es.size ≤ l.length := by omega
  have hrd2 : ∀ x ∈ es.toList, ∃ y, Go.WideElems.rd Tryd.prog 3 mapR x = some y := fun x hx => by
    obtain ⟨j, hj⟩ := List.mem_iff_getElem?.1 hx
    obtain ⟨pr, hpr⟩ : ∃ pr, l[j]? = some pr := by
      have := (List.getElem?_eq_some_iff.1 hj).1
      exact ⟨_, List.getElem?_eq_getElem (by omega)⟩
    exact ⟨_, hrd j x pr hj hpr⟩
  have hown : w.ownsMap Tryd.prog 3 mapR (G.rho id) l.length (.map ((es.toList.map (Go.WideElems.rg Tryd.prog 3 mapR)).foldr DataW.insert [])) :=
    ⟨es, clock, hb, ⟨hsz1, hs, hrd2⟩, hsz2, rfl⟩
  have hD : Maps.size (DataW.map ((es.toList.map (Go.WideElems.rg Tryd.prog 3 mapR)).foldr DataW.insert [])) = l.length := by
    show ((es.toList.map _).foldr DataW.insert []).length = _
    rw [(Go.WideShapes.sorted_perm _).length_eq, List.length_map, hsz]
  have hseq := AnyZI.keys_gives (ρ := lay_keysA_ren) { lay_keysA with } Fence.wide 2 trivial rfl (by omega) (G.rho a) (G.rho id) l.length _ w (Array.getElem?_eq_some_iff.1 hc).1 hcell hown
  have cS := AnyZI.sorted_in lay_sortedA Fence.wide 5 trivial trivial trivial trivial rfl (by omega) (sorts_pf _) (enters_of Tryd.func51 zq18 rfl) 52 #[.pointer (some ⟨G.rho a, 0, none⟩)] trivial (enters_of Tryd.func52 zq18 rfl) _ _ (by rw [hD]; unfold maxLen; omega) (by rw [hD]; omega) _ hseq
  change CallsIn _ _ Tryd.prog 35 _ _ _ at cS
  refine (callsIn_wide.1 cS).mono ?_
  rintro e w' ⟨v, ss, rfl, hS, hrow, hnil, hbel⟩
  have hks : intKeys (DataW.map ((es.toList.map (Go.WideElems.rg Tryd.prog 3 mapR)).foldr DataW.insert [])) |>.Perm (l.map (·.1)) := by
    show (List.map _ (List.foldr DataW.insert [] _)).Perm _
    refine ((Go.WideShapes.sorted_perm _).map _).trans ?_
    rw [List.map_map]
    refine List.Perm.of_eq (List.ext_getElem? fun j => ?_)
    rw [List.getElem?_map, List.getElem?_map]
    cases hj : es.toList[j]? with
    | none => rw [List.getElem?_eq_none (by have := List.getElem?_eq_none_iff.1 hj; omega)]; rfl
    | some x =>
      obtain ⟨pr, hpr⟩ : ∃ pr, l[j]? = some pr := by
        have := (List.getElem?_eq_some_iff.1 hj).1
        exact ⟨_, List.getElem?_eq_getElem (by omega)⟩
      rw [hpr]
      show some (_ : Int) = some pr.1
      simp only [Function.comp, Go.WideElems.rg, hrd j x pr hj hpr]
      rfl
  have hsort : ss.mergeSort (fun x y => decide (x ≤ y)) = sortI (l.map (·.1)) := mergeSort_of_perm_i (hS.trans hks)
  rw [hsort] at hrow
  have hlen : (sortI (l.map (·.1))).length = ss.length := by rw [← hsort, List.length_mergeSort]
  rcases hrow.2 with ⟨rfl, hz⟩ | ⟨gb, cap, cur, rfl, hbase, hgb, r1, r2, r3, r4⟩
  · have hnil2 : sortI (l.map (·.1)) = [] := List.eq_nil_of_length_eq_zero (by omega)
    rw [hnil2] at hK
    exact ⟨_, _, st, G, rfl, .refl G, hrel.stood hbel, .rowNil 1 0 (.inl rfl), hK⟩
  · obtain ⟨G', hle, hrel', hnx, hM⟩ := hrel.given hbel gb cur.toList 3 (0, 0) hbase (by rw [Array.toArray_toList]; exact hgb)
    refine ⟨_, _, st, G', rfl, hle, hrel', ?_, hK⟩
    have hat : ∀ i, i < ss.length → cur.toList[i]? = some (.int .i64 ((sortI (l.map (·.1)))[i]?.getD 0)) := fun i hi => by
      have h1 : (List.take (ss.length * 1) cur.toList)[i]? = cur.toList[i]? := List.getElem?_take_of_lt (by omega)
      rw [← h1, r4, List.getElem?_map, List.getElem?_eq_getElem (by omega)]
      rfl
    refine .row _ 1 0 ⟨gb, 0, none⟩ ss.length cap (fun i _ => .int .i64 ((sortI (l.map (·.1)))[i]?.getD 0)) (by rw [intR_length, hlen]) r1 r2 ?_ ?_ ?_ ?_ (fun h => absurd rfl h)
    · intro i x hx
      simp only [intR, List.getElem?_map] at hx
      obtain ⟨y, _, rfl⟩ := Option.map_eq_some_iff.1 hx
      rfl
    · intro i j hi hj
      have : j = 0 := by omega
      subst this
      have h := hM i _ (hat i hi)
      show G'.M ((⟨gb, 0, none⟩ : Addr).add (i * 1 + 0)) = _
      rw [show i * 1 + 0 = i by omega]
      by_cases h0 : i = 0
      · subst h0; exact h
      · simp [Addr.add, h0]; exact h
    · intro i j; rfl
    · intro i x j d hx hd
      simp only [intR, List.getElem?_map] at hx
      obtain ⟨y, hy, rfl⟩ := Option.map_eq_some_iff.1 hx
      match j with
      | 0 => cases hd; rw [hy]; exact .v _
      | j + 1 => simp at hd
theorem ids_snd : SoundF Tryd.prog 16 fun args st K => ∃ (s id : Nat) (v : StshV), args = [.ptr s 0] ∧ IsStsh st s id v ∧ StOk v ∧ K (.row (intR (sortI (v.cs.map (·.1)))) 1 0) st := by
  refine sound_ofA Tryd.func16 rfl Tryd.results16 ?_
  rintro w0 args st K ⟨s, id, v, rfl, ⟨hH, hN⟩, hok, hK⟩
  rw [Tryd.ntmps16]; refine ⟨by simp, ?_⟩
  have hS := Sep.nil st
  (repeat (first | ((with_reducible apply zr_seq)) | ((with_reducible apply zr_region); (try simp only [List.append_eq, List.cons_append, List.nil_append])) | ((with_reducible apply zo_end)) | ((with_reducible apply zs_move); (exact rfl); (exact rfl)) | ((with_reducible apply zs_assign); (exact rfl); (exact rfl)) | ((with_reducible apply zs_nilCheck_ptr); (exact rfl); (exact rfl)) | ((with_reducible apply zs_field_ptr); (exact rfl); (exact rfl); (exact fld_of rfl)) | ((with_reducible apply zs_load_ptr); (exact rfl); (exact rfl); (exact sh_of rfl); (first | assumption | exact St.setH_self _ _ _ | exact Sep.at_ (i := 0) zq17 rfl | exact Sep.at_ (i := 1) zq17 rfl | exact Sep.at_ (i := 2) zq17 rfl | exact Sep.at_ (i := 3) zq17 rfl | exact Sep.at_ (i := 4) zq17 rfl | exact Sep.at_ (i := 5) zq17 rfl | exact Sep.at_ (i := 6) zq17 rfl); (first | exact rfl | assumption)) | ((with_reducible apply zs_call keys_snd cl_36); (exact rfl); (exact rfl); ((try simp only [List.append_nil]); first | exact Ups.nilrow 1 (Ups.nilrow 1 (Ups.nilrow 1 (Ups.refl _))) | exact Ups.nilrow 1 (Ups.nilrow 1 (Ups.refl _)) | exact Ups.same (Ups.nilrow 1 (Ups.nilrow 1 (Ups.refl _))) | exact Ups.nilrow 1 (Ups.same (Ups.nilrow 1 (Ups.refl _))) | exact Ups.nilrow 1 (Ups.refl _) | exact Ups.same (Ups.nilrow 1 (Ups.refl _)) | exact Ups.same (Ups.same (Ups.nilrow 1 (Ups.refl _))) | exact Ups.refl _))))
  refine ⟨id, rfl, fun a sS hE hA => ?_⟩
  (try ((with_reducible apply zs_yes); exact rfl; exact rfl; (first | assumption | exact rfl))); refine zo_callU sorted_snd Tryd.func35 zq18 rfl rfl rfl rfl (by decide) rfl rfl zq2 ?_
  refine ⟨a, id, stD v.cs, rfl, hA, hE.N id _ hN, ?_, ?_, ?_⟩
  · intro p hp
    simp only [stD, List.mem_map] at hp
    obtain ⟨c, hc, rfl⟩ := hp
    have := okC_bounds (hok.all c hc)
    show (Lit.int .i64 c.1).wf = true
    have hmin : IntKind.i64.min = -9223372036854775808 := rfl
    simp [Lit.wf, hmin]; omega
  · have := hok.room; have := hok.m1; rw [stD_len]; omega
  rw [show (stD v.cs).map (·.1) = v.cs.map (·.1) by simp [stD]]
  (repeat (first | ((with_reducible apply zo_end)) | ((with_reducible apply zs_assign); (exact rfl); (exact rfl)) | ((with_reducible apply zr_retZ); (exact rfl); (repeat (first | exact resD_nil _ _ _ | ((with_reducible apply resD_tmp); (exact rfl)) | ((with_reducible apply resD_cell_agg); (exact rfl); (exact sh_of rfl); (first | assumption | exact St.setH_self _ _ _ | exact Sep.at_ (i := 0) zq17 rfl | exact Sep.at_ (i := 1) zq17 rfl | exact Sep.at_ (i := 2) zq17 rfl | exact Sep.at_ (i := 3) zq17 rfl | exact Sep.at_ (i := 4) zq17 rfl | exact Sep.at_ (i := 5) zq17 rfl | exact Sep.at_ (i := 6) zq17 rfl); (exact rfl)) | ((with_reducible apply resD_cell); (exact rfl); (exact sh_of rfl); (first | assumption | exact St.setH_self _ _ _ | exact Sep.at_ (i := 0) zq17 rfl | exact Sep.at_ (i := 1) zq17 rfl | exact Sep.at_ (i := 2) zq17 rfl | exact Sep.at_ (i := 3) zq17 rfl | exact Sep.at_ (i := 4) zq17 rfl | exact Sep.at_ (i := 5) zq17 rfl | exact Sep.at_ (i := 6) zq17 rfl); (exact rfl)))); (simp only [resOf]))))
  exact KE.mk _ hE hK
end Go.Proofs.ZtLe
