/- A part of the proof of InneChunks: walks of the functions that it reaches. No condition. -/
import Derived.Test.YtjkocjjcdjjdiaaZtInG
import Derived.Test.YtjkocjjcdjjdiaaZmAuto
namespace Go.Proofs.ZtLe
open Go.RowKit Go.Proofs Go.Proofs.Zm
set_option linter.unusedVariables false
set_option linter.unusedSimpArgs false
set_option maxHeartbeats 20000000
set_option maxRecDepth 100000
attribute [local irreducible] ZWp ZOps ZPure ZPure0 ZVal ZOp SoundF

/-! ### inne.still, given away -/
theorem still_pf {n : NodeV} (h : NodeB n) : PureF Try.prog 33 [.agg (nodeD n)] (.agg (nodeD n)) :=
  PureF.ofOwn fun st K hK => ⟨stillOwn, still_own, n, rfl, h, fun o1 c1 f1 o2 c2 f2 o3 c3 f3 o4 c4 f4 st' hS g1 g2 g3 g4 => by
    obtain ⟨e1, k1⟩ := OR.mk_ok (by decide) g1 rfl (rowR_one _)
    obtain ⟨e2, k2⟩ := OR.mk_ok (by decide) g2 rfl (rowR_one _)
    obtain ⟨e3, k3⟩ := OR.mk_ok (by decide) g3 rfl (msgR_three _)
    obtain ⟨e4, k4⟩ := OR.mk_ok (by decide) g4 rfl (intR_one _)
    refine hK [⟨o1, f1, 1, c1, rowR n.keys⟩, ⟨o2, f2, 1, c2, rowR n.vals⟩, ⟨o3, f3, 3, c3, msgR n.msgs⟩, ⟨o4, f4, 1, c4, intR n.kids⟩] st' _ hS (fun r hr => ?_) fun G hr => ?_
    · simp only [List.mem_cons, List.not_mem_nil, or_false] at hr
      rcases hr with rfl | rfl | rfl | rfl <;> assumption
    · have r1 := hr _ (.head _)
      have r2 := hr _ (.tail _ (.head _))
      have r3 := hr _ (.tail _ (.tail _ (.head _)))
      have r4 := hr _ (.tail _ (.tail _ (.tail _ (.head _))))
      unfold OR.own OR.row at r1 r2 r3 r4
      simp only at r1 r2 r3 r4
      rw [e1] at r1; rw [e2] at r2; rw [e3] at r3; rw [e4] at r4
      exact AtLe.agg (.cons .same (.cons r1 (.cons r2 (.cons r4 (.cons r3 .nil)))))⟩

/-! ### inne.Heavy -/
/-- How many messages a kid has. -/
def cntK (keys : List Bs) (l : List MsgV) (k : Nat) : Nat := (l.filter fun m => wayL keys m.2.1 == k).length
def cntL (keys : List Bs) (l : List MsgV) (N : Nat) : List D := (List.range N).map fun k => .v (.int .i64 (cntK keys l k : Nat))
theorem cntL_length (keys : List Bs) (l : List MsgV) (N : Nat) : (cntL keys l N).length = N := by simp [cntL]
theorem cntL_get {keys : List Bs} {l : List MsgV} {N k : Nat} (h : k < N) : (cntL keys l N)[k]? = some (.v (.int .i64 (cntK keys l k : Nat))) := by
  unfold cntL; rw [List.getElem?_map, List.getElem?_range h]; rfl
theorem cntK_le (keys : List Bs) (l : List MsgV) (k : Nat) : cntK keys l k ≤ l.length := List.length_filter_le _ _
theorem cntK_app (keys : List Bs) (l : List MsgV) (m : MsgV) (k : Nat) : cntK keys (l ++ [m]) k = cntK keys l k + if wayL keys m.2.1 = k then 1 else 0 := by
  unfold cntK
  rw [List.filter_append, List.length_append]
  by_cases h : wayL keys m.2.1 = k <;> simp [h]
theorem cntL_step (keys : List Bs) (l : List MsgV) (m : MsgV) (N : Nat) (h : wayL keys m.2.1 < N) :
    (cntL keys l N).take (wayL keys m.2.1) ++ [.v (.int .i64 ((cntK keys l (wayL keys m.2.1) + 1 : Nat) : Int))] ++ (cntL keys l N).drop (wayL keys m.2.1 + 1) = cntL keys (l ++ [m]) N := by
  have hl := cntL_length keys l N
  have e : ∀ x : D, (cntL keys l N).take (wayL keys m.2.1) ++ [x] ++ (cntL keys l N).drop (wayL keys m.2.1 + 1) = (cntL keys l N).set (wayL keys m.2.1) x := fun x => by
    rw [List.set_eq_take_append_cons_drop, if_pos (by omega)]; simp
  rw [e]
  apply List.ext_getElem?
  intro j
  rw [List.getElem?_set]
  by_cases hj : j < N
  · rw [cntL_get hj, cntL_get hj, cntK_app]
    by_cases hw : wayL keys m.2.1 = j
    · subst hw; simp [hl, h]
    · simp [hw]
  · rw [if_neg (by omega), List.getElem?_eq_none (by omega), List.getElem?_eq_none (by rw [cntL_length]; omega)]
def bestL (f : Nat → Nat) (N : Nat) : Nat := (List.range N).foldl (fun b i => if f b < f i then i else b) 0
theorem bestL_succ (f : Nat → Nat) (i : Nat) : bestL f (i + 1) = if f (bestL f i) < f i then i else bestL f i := by
  unfold bestL; rw [List.range_succ, List.foldl_append]; rfl
theorem bestL_lt (f : Nat → Nat) : ∀ (i N : Nat), i ≤ N → 0 < N → bestL f i < N
  | 0, N, _, h => h
  | i + 1, N, h, h0 => by
    rw [bestL_succ]
    split
    · omega
    · exact bestL_lt f i N (by omega) h0
def heavyL (n : NodeV) : Nat := bestL (cntK n.keys n.msgs) (n.keys.length + 1)
theorem rep_cntL (keys : List Bs) (N : Nat) : (List.replicate N [D.v (.int .i64 0)]).flatten = cntL keys [] N := by
  unfold cntL cntK
  rw [List.flatten_replicate_singleton]
  simp only [List.filter_nil, List.length_nil]
  apply List.ext_getElem <;> simp
theorem heavy_pf {n : NodeV} (h : NodeB n ∧ Srt n.keys) : PureF Try.prog 18 [.agg (nodeD n)] (.v (.int .i64 (heavyL n : Nat))) := by
  obtain ⟨hn, hs⟩ := h
  refine pure_of Try.func18 rfl Try.results18 (by rw [Try.ntmps18]; simp) (fun w0 st K hK => ?_); rw [Try.ntmps18]
  have hS := Sep.nil st
  have hkl := hn.keys.1
  have hml := hn.msgs
  obtain ⟨N, hN⟩ : ∃ N, N = n.keys.length + 1 := ⟨_, rfl⟩
  have hlen : (rowR n.keys).length = n.keys.length := rowR_length _
  have hw : IntKind.i64.wrap (((rowR n.keys).length : Int) + 1) = (N : Int) := by rw [wrap_in64 (by omega) (by omega)]; omega
  unfold heavyL at hK
  rw [← hN] at hK
  (repeat (first | ((with_reducible apply zr_seq)) | ((with_reducible apply zr_region); (try simp only [List.append_eq, List.cons_append, List.nil_append])) | ((with_reducible apply zo_end)) | ((with_reducible apply zs_assign); (exact rfl); (exact rfl)) | ((with_reducible apply zs_add); (exact rfl); (exact rfl); (exact rfl); (first | (with_reducible assumption) | exact wrap_in64 (by omega) (by omega))) | ((with_reducible apply zs_len); (exact rfl); (exact rfl); (exact un_sl rfl)) | ((with_reducible apply zs_field_ref); (exact rfl); (exact rfl); (exact fld_of rfl)) | ((with_reducible apply zs_load_ref); (exact rfl); (exact rfl); (exact sh_of rfl); (exact rfl)) | ((with_reducible apply (zs_boxRef (t := 1))); (exact rfl); (exact rfl))))
  (try ((with_reducible apply zs_yes); exact rfl; exact rfl; (first | assumption | exact rfl))); refine zo_val rfl rfl (by decide) (zv_smake rfl rfl rfl zq35 zq32 (by exact rfl) zq30 (by omega) (by omega) (by omega) hS fun id sS hS hg => ?_)
  rw [Int.toNat_natCast, rep_cntL n.keys] at hS
  rw [Int.toNat_natCast]
  clear hg
  (repeat (first | ((with_reducible apply zr_seq)) | ((with_reducible apply zr_region); (try simp only [List.append_eq, List.cons_append, List.nil_append])) | ((with_reducible apply zo_end)) | ((with_reducible apply zs_move); (exact rfl); (exact rfl)) | ((with_reducible apply zs_assign); (exact rfl); (exact rfl)) | ((with_reducible apply zs_len); (exact rfl); (exact rfl); (exact un_sl rfl)) | ((with_reducible apply zr_block)) | ((with_reducible apply zs_field_ref); (exact rfl); (exact rfl); (exact fld_of rfl)) | ((with_reducible apply zs_load_ref); (exact rfl); (exact rfl); (exact sh_of rfl); (exact rfl))))
  refine zr_loopK [1, 3, 4, 15, 16] (fun m e s => ∃ i : Nat, m + i = n.msgs.length ∧ e = [(17, .v (.int .i64 (i : Nat)))] ∧ Zm.Sep st s [(some id, cntL n.keys (n.msgs.take i) N)]) n.msgs.length _ zq18 ⟨0, by simp, rfl, hS⟩ zq21 ?_
  rintro m e s ⟨i, hm, rfl, hS⟩
  (repeat (first | ((with_reducible apply zr_seq)) | ((with_reducible apply zr_region); (try simp only [List.append_eq, List.cons_append, List.nil_append])) | ((with_reducible apply zo_end)) | ((with_reducible apply zs_lss); (exact rfl); (exact rfl); (exact rfl))))
  (first | refine zr_cond rfl (fun h1 => ?_) (fun h1 => ?_) | refine zs_split rfl rfl (fun h1 => ?_) (fun h1 => ?_)) <;> have h1' := h1 <;> (try simp only [decide_eq_true_eq, decide_eq_false_iff_not, Bool.and_eq_true, Bool.or_eq_true, Bool.and_eq_false_iff, Bool.or_eq_false_iff, Bool.not_eq_true', Bool.not_eq_false', Bool.not_eq_true, Bool.not_eq_false, Int.not_le, Int.not_lt, Classical.not_not, Decidable.not_not, ne_eq, beq_iff_eq, bne_iff_ne] at h1')
  · simp only [msgR_length] at h1'
    obtain ⟨b, hb, hbt, _, hbg⟩ := eltM (l := n.msgs) (i := i) (by omega)
    have hwl : wayL n.keys b.2.1 < N := by have := way_le n.keys b.2.1; omega
    have hck := cntK_le n.keys (n.msgs.take i) (wayL n.keys b.2.1)
    rw [List.length_take] at hck
    have hcg := cntL_get (keys := n.keys) (l := n.msgs.take i) hwl
    have hst := cntL_step n.keys (n.msgs.take i) b N hwl
    have hcl := cntL_length n.keys (n.msgs.take i) N
    rw [← hbt] at hst
    have hw2 : IntKind.i64.wrap (((cntK n.keys (n.msgs.take i) (wayL n.keys b.2.1) : Nat) : Int) + 1) = ((cntK n.keys (n.msgs.take i) (wayL n.keys b.2.1) + 1 : Nat) : Int) := by rw [wrap_in64 (by omega) (by omega)]; rfl
    (repeat (first | ((with_reducible apply (zs_sstore (i := 0))); (exact rfl); (exact rfl); (exact sh_of rfl); (assumption); (exact rfl); (first | exact rfl | (simp [cells_orow])); ((try rw [cells_orow]); (repeat (first | exact one_nil | (apply one_cons; (first | exact rfl | exact one_orow _ _ _))))); (first | exact Nat.le_of_ble_eq_true rfl | omega | (focus (simp [cellsD, msgD, nodeD, pairD]; done))); (first | (simp only [cells_orow, cD_int, cD_bool, cD_float, cD_nil, cD_ptr0, cD_str, cD_row, cD_mrow, cD_ptr, cD_ref, cD_fn, cD_agg, List.take_zero, List.take_succ_cons, List.take_nil, List.drop_succ_cons, List.drop_zero, List.drop_nil, List.nil_append, List.cons_append, List.append_nil, Nat.zero_add, Nat.reduceAdd]; exact rfl) | exact rfl); (intro sS hS); (try simp only [List.set_cons_zero, List.set_cons_succ] at hS)) | ((with_reducible apply zr_seq)) | ((with_reducible apply zr_region); (try simp only [List.append_eq, List.cons_append, List.nil_append])) | ((with_reducible apply zo_end)) | ((with_reducible apply zo_endB)) | ((with_reducible apply zs_move); (exact rfl); (exact rfl)) | ((with_reducible apply zs_add); (exact rfl); (exact rfl); (exact rfl); (first | (with_reducible assumption) | exact wrap_in64 (by omega) (by omega))) | ((with_reducible apply zr_block)) | ((with_reducible apply zr_skip')) | ((with_reducible apply zs_field_ref); (exact rfl); (exact rfl); (exact fld_of rfl)) | ((with_reducible apply zs_load_ref); (exact rfl); (exact rfl); (exact sh_of rfl); (exact rfl)) | ((with_reducible apply zs_load_ptr); (exact rfl); (exact rfl); (exact sh_of rfl); (first | assumption | exact St.setH_self _ _ _ | exact Sep.at_ (i := 0) (by assumption) rfl | exact Sep.at_ (i := 1) (by assumption) rfl | exact Sep.at_ (i := 2) (by assumption) rfl | exact Sep.at_ (i := 3) (by assumption) rfl | exact Sep.at_ (i := 4) (by assumption) rfl | exact Sep.at_ (i := 5) (by assumption) rfl | exact Sep.at_ (i := 6) (by assumption) rfl); (first | exact rfl | assumption)) | ((with_reducible apply zs_load_refAll); (exact rfl); (exact rfl); (exact sh_of rfl); (exact rfl)) | ((with_reducible apply zs_index_mrow1); (exact rfl); (exact rfl); (exact rfl); (exact un_sl rfl); (exact ii_of rfl); (first | omega | (simp only [List.length_map, List.length_take, List.length_drop, List.length_append, List.length_cons, List.length_nil, List.length_replicate, rowR_length, intR_length, msgR_length, pairR_length]; omega) | decide); (first | omega | (simp only [List.length_map, List.length_take, List.length_drop, List.length_append, List.length_cons, List.length_nil, List.length_replicate, rowR_length, intR_length, msgR_length, pairR_length]; omega) | decide); (first | (with_reducible exact Int.toNat_natCast _) | (simp only [Int.reduceToNat]; exact rfl) | exact rfl)) | ((with_reducible apply zs_idxE); (exact rfl); (exact rfl); (exact rfl); (exact un_sl rfl); (exact ii_of rfl); (first | omega | (simp only [List.length_map, List.length_take, List.length_drop, List.length_append, List.length_cons, List.length_nil, List.length_replicate, rowR_length, intR_length, msgR_length, pairR_length]; omega) | decide); (first | omega | (simp only [List.length_map, List.length_take, List.length_drop, List.length_append, List.length_cons, List.length_nil, List.length_replicate, rowR_length, intR_length, msgR_length, pairR_length]; omega) | decide); (first | (with_reducible exact Int.toNat_natCast _) | (simp only [Int.reduceToNat]; exact rfl) | exact rfl); (assumption)) | ((with_reducible apply (zs_allocRef (t := 6))); (exact el_of rfl); (simp [oneD, Value.oneCell']); (exact sh_of rfl); (exact rfl); (intro _; exact rfl); (exact rfl); (simp [cellsD, oneD, Value.oneCell', msgD, nodeD, pairD])) | ((with_reducible apply (zs_callQ way_pf cl_14)); (exact rfl); (exact rfl); ((repeat (first | exact DLes.nil | (apply DLes.cons; first | exact DLe.refl _ | exact DLe.nilB | exact DLe.nilR | exact DLe.nilI)))); (first | exact trivial | assumption | ((repeat' (with_reducible refine And.intro ?_ ?_)) <;> first | assumption | omega | exact trivial | (simp; done) | (simp; omega))))))
    rw [hst] at hS
    skip
    exact ⟨m - 1, _, by omega, ⟨i + 1, by omega, rfl, hS⟩, zq21, zq21⟩
  · have hi : i = n.msgs.length := by simp only [msgR_length] at h1'; omega
    subst hi
    rw [List.take_length] at hS
    have hcl := cntL_length n.keys n.msgs N
    (repeat (first | ((with_reducible apply zr_seq)) | ((with_reducible apply zr_region); (try simp only [List.append_eq, List.cons_append, List.nil_append])) | ((with_reducible apply zo_end)) | ((with_reducible apply zs_move); (exact rfl); (exact rfl)) | ((with_reducible apply zr_block)) | (with_reducible refine zr_exit ?_; simp only [Zthen, Zblock, ↓reduceIte]) | ((with_reducible apply zs_len_mrow); (exact rfl); (exact rfl); (exact un_sl rfl))))
    refine zr_loopK [3, 31, 32] (fun m e s => ∃ i : Nat, m + i = N ∧ e = [(4, .v (.int .i64 (bestL (cntK n.keys n.msgs) i : Nat))), (33, .v (.int .i64 (i : Nat)))] ∧ Zm.Sep st s [(some id, cntL n.keys n.msgs N)]) N _ zq18 ⟨0, by simp, rfl, hS⟩ zq21 ?_
    rintro m e s ⟨i, hm, rfl, hS⟩
    (repeat (first | ((with_reducible apply zr_seq)) | ((with_reducible apply zr_region); (try simp only [List.append_eq, List.cons_append, List.nil_append])) | ((with_reducible apply zo_end)) | ((with_reducible apply zs_lss); (exact rfl); (exact rfl); (exact rfl))))
    (first | refine zr_cond rfl (fun h1 => ?_) (fun h1 => ?_) | refine zs_split rfl rfl (fun h1 => ?_) (fun h1 => ?_)) <;> have h1' := h1 <;> (try simp only [decide_eq_true_eq, decide_eq_false_iff_not, Bool.and_eq_true, Bool.or_eq_true, Bool.and_eq_false_iff, Bool.or_eq_false_iff, Bool.not_eq_true', Bool.not_eq_false', Bool.not_eq_true, Bool.not_eq_false, Int.not_le, Int.not_lt, Classical.not_not, Decidable.not_not, ne_eq, beq_iff_eq, bne_iff_ne] at h1')
    · have hi1 := cntL_get (keys := n.keys) (l := n.msgs) (N := N) (k := i) (by omega)
      have hbl := bestL_lt (cntK n.keys n.msgs) i N (by omega) (by omega)
      have hi2 := cntL_get (keys := n.keys) (l := n.msgs) (N := N) hbl
      have hsu := bestL_succ (cntK n.keys n.msgs) i
      (repeat (first | ((with_reducible apply zr_seq)) | ((with_reducible apply zr_region); (try simp only [List.append_eq, List.cons_append, List.nil_append])) | ((with_reducible apply zo_end)) | ((with_reducible apply zs_move); (exact rfl); (exact rfl)) | ((with_reducible apply zs_assign); (exact rfl); (exact rfl)) | ((with_reducible apply zs_gtr); (exact rfl); (exact rfl); (exact rfl)) | ((with_reducible apply zr_block)) | ((with_reducible apply zr_skip')) | ((with_reducible apply zs_load_ptr); (exact rfl); (exact rfl); (exact sh_of rfl); (first | assumption | exact St.setH_self _ _ _ | exact Sep.at_ (i := 0) (by assumption) rfl | exact Sep.at_ (i := 1) (by assumption) rfl | exact Sep.at_ (i := 2) (by assumption) rfl | exact Sep.at_ (i := 3) (by assumption) rfl | exact Sep.at_ (i := 4) (by assumption) rfl | exact Sep.at_ (i := 5) (by assumption) rfl | exact Sep.at_ (i := 6) (by assumption) rfl); (first | exact rfl | assumption)) | ((with_reducible apply zs_index_mrow1); (exact rfl); (exact rfl); (exact rfl); (exact un_sl rfl); (exact ii_of rfl); (first | omega | (simp only [List.length_map, List.length_take, List.length_drop, List.length_append, List.length_cons, List.length_nil, List.length_replicate, rowR_length, intR_length, msgR_length, pairR_length]; omega) | decide); (first | omega | (simp only [List.length_map, List.length_take, List.length_drop, List.length_append, List.length_cons, List.length_nil, List.length_replicate, rowR_length, intR_length, msgR_length, pairR_length]; omega) | decide); (first | (with_reducible exact Int.toNat_natCast _) | (simp only [Int.reduceToNat]; exact rfl) | exact rfl))))
      (first | refine zr_cond rfl (fun h2 => ?_) (fun h2 => ?_) | refine zs_split rfl rfl (fun h2 => ?_) (fun h2 => ?_)) <;> have h2' := h2 <;> (try simp only [decide_eq_true_eq, decide_eq_false_iff_not, Bool.and_eq_true, Bool.or_eq_true, Bool.and_eq_false_iff, Bool.or_eq_false_iff, Bool.not_eq_true', Bool.not_eq_false', Bool.not_eq_true, Bool.not_eq_false, Int.not_le, Int.not_lt, Classical.not_not, Decidable.not_not, ne_eq, beq_iff_eq, bne_iff_ne] at h2')
      · rw [if_pos (by omega)] at hsu
        (repeat (first | ((with_reducible apply zr_region); (try simp only [List.append_eq, List.cons_append, List.nil_append])) | ((with_reducible apply zo_end)) | ((with_reducible apply zo_endB)) | ((with_reducible apply zs_move); (exact rfl); (exact rfl)) | ((with_reducible apply zs_assign); (exact rfl); (exact rfl)) | ((with_reducible apply zs_add); (exact rfl); (exact rfl); (exact rfl); (first | (with_reducible assumption) | exact wrap_in64 (by omega) (by omega)))))
        exact ⟨m - 1, _, by omega, ⟨i + 1, by omega, rfl, hS⟩, (by rw [hsu]; exact zq21), zq21⟩
      · rw [if_neg (by omega)] at hsu
        (repeat (first | ((with_reducible apply zr_region); (try simp only [List.append_eq, List.cons_append, List.nil_append])) | ((with_reducible apply zo_end)) | ((with_reducible apply zs_move); (exact rfl); (exact rfl)) | ((with_reducible apply zs_add); (exact rfl); (exact rfl); (exact rfl); (first | (with_reducible assumption) | exact wrap_in64 (by omega) (by omega))) | ((with_reducible apply zr_skipB))))
        exact ⟨m - 1, _, by omega, ⟨i + 1, by omega, rfl, hS⟩, (by rw [hsu]; exact zq21), zq21⟩
    · have hi : i = N := by omega
      subst hi
      (repeat (first | ((with_reducible apply zr_seq)) | ((with_reducible apply zr_region); (try simp only [List.append_eq, List.cons_append, List.nil_append])) | ((with_reducible apply zo_end)) | ((with_reducible apply zs_move); (exact rfl); (exact rfl)) | ((with_reducible apply zs_assign); (exact rfl); (exact rfl)) | (with_reducible refine zr_exit ?_; simp only [Zthen, Zblock, ↓reduceIte]) | ((with_reducible apply zr_retZ); (exact rfl); (repeat (first | exact resD_nil _ _ _ | ((with_reducible apply resD_tmp); (exact rfl)) | ((with_reducible apply resD_cell_agg); (exact rfl); (exact sh_of rfl); (first | assumption | exact St.setH_self _ _ _ | exact Sep.at_ (i := 0) (by assumption) rfl | exact Sep.at_ (i := 1) (by assumption) rfl | exact Sep.at_ (i := 2) (by assumption) rfl | exact Sep.at_ (i := 3) (by assumption) rfl | exact Sep.at_ (i := 4) (by assumption) rfl | exact Sep.at_ (i := 5) (by assumption) rfl | exact Sep.at_ (i := 6) (by assumption) rfl); (exact rfl)) | ((with_reducible apply resD_cell); (exact rfl); (exact sh_of rfl); (first | assumption | exact St.setH_self _ _ _ | exact Sep.at_ (i := 0) (by assumption) rfl | exact Sep.at_ (i := 1) (by assumption) rfl | exact Sep.at_ (i := 2) (by assumption) rfl | exact Sep.at_ (i := 3) (by assumption) rfl | exact Sep.at_ (i := 4) (by assumption) rfl | exact Sep.at_ (i := 5) (by assumption) rfl | exact Sep.at_ (i := 6) (by assumption) rfl); (exact rfl)))); (simp only [resOf]))))
      exact KE.mk _ hS.ext hK

/-! ### inne.Chunk -/
/-- The first messages of a kid, at most so many, and the rest. -/
def mineL (keys : List Bs) (k most : Nat) (l : List MsgV) : List MsgV × List MsgV := l.foldl (fun p m => if p.1.length < most ∧ wayL keys m.2.1 = k then (p.1 ++ [m], p.2) else (p.1, p.2 ++ [m])) ([], [])
theorem mineL_app (keys : List Bs) (k most : Nat) (l : List MsgV) (m : MsgV) : mineL keys k most (l ++ [m]) = if (mineL keys k most l).1.length < most ∧ wayL keys m.2.1 = k then ((mineL keys k most l).1 ++ [m], (mineL keys k most l).2) else ((mineL keys k most l).1, (mineL keys k most l).2 ++ [m]) := by
  unfold mineL; rw [List.foldl_append]; rfl
theorem rev_ind {α : Type} {p : List α → Prop} (h0 : p []) (h1 : ∀ l a, p l → p (l ++ [a])) (l : List α) : p l := by
  have key : ∀ (n : Nat) (l : List α), l.length = n → p l := by
    intro n
    induction n with
    | zero => intro l hl; rw [List.length_eq_zero_iff.1 hl]; exact h0
    | succ n ih =>
      intro l hl
      have hne : l ≠ [] := fun e => by subst e; cases hl
      rw [← List.dropLast_concat_getLast hne]
      exact h1 _ _ (ih _ (by rw [List.length_dropLast]; omega))
  exact key _ l rfl
theorem mineL_len (keys : List Bs) (k most : Nat) (l : List MsgV) : (mineL keys k most l).1.length + (mineL keys k most l).2.length = l.length := by
  induction l using rev_ind with
  | h0 => rfl
  | h1 l m ih => rw [mineL_app]; split <;> simp <;> omega
def chunkOwn : ZSpec := fun args st K => ∃ (n : NodeV) (k most : Nat), args = [.agg (nodeD n), .v (.int .i64 (k : Nat)), .v (.int .i64 (most : Nat))] ∧ NodeB n ∧ Srt n.keys ∧ ∀ o c f o2 c2 f2 st', Sep st st' [(o, f), (o2, f2)] → GRow o f 3 (mineL n.keys k most n.msgs).1.length c (msgR (mineL n.keys k most n.msgs).1).flatten → GRow o2 f2 3 (mineL n.keys k most n.msgs).2.length c2 (msgR (mineL n.keys k most n.msgs).2).flatten →
  K (.tup [.agg [.v (.bool n.leaf), .row (rowR n.keys) 1 0, .row (rowR n.vals) 1 0, .row (intR n.kids) 1 0, orow o2 (mineL n.keys k most n.msgs).2.length c2], orow o (mineL n.keys k most n.msgs).1.length c]) st'
theorem chunk_own : SoundF Try.prog 19 chunkOwn := by
  refine sound_ofA Try.func19 rfl Try.results19 ?_
  rintro w0 args st K ⟨n, k, most, rfl, hn, hs, hK⟩
  rw [Try.ntmps19]; refine ⟨by simp, ?_⟩
  have hS := Sep.nil st
  have hkl := hn.keys.1
  have hml := hn.msgs
  have hlen := mineL_len n.keys k most
  (repeat (first | ((with_reducible apply (zs_sstore (i := 0))); (exact rfl); (exact rfl); (exact sh_of rfl); (assumption); (exact rfl); (first | exact rfl | (simp [cells_orow])); ((try rw [cells_orow]); (repeat (first | exact one_nil | (apply one_cons; (first | exact rfl | exact one_orow _ _ _))))); (first | exact Nat.le_of_ble_eq_true rfl | omega | (focus (simp [cellsD, msgD, nodeD, pairD]; done))); (first | (simp only [cells_orow, cD_int, cD_bool, cD_float, cD_nil, cD_ptr0, cD_str, cD_row, cD_mrow, cD_ptr, cD_ref, cD_fn, cD_agg, List.take_zero, List.take_succ_cons, List.take_nil, List.drop_succ_cons, List.drop_zero, List.drop_nil, List.nil_append, List.cons_append, List.append_nil, Nat.zero_add, Nat.reduceAdd]; exact rfl) | exact rfl); (intro sS hS); (try simp only [List.set_cons_zero, List.set_cons_succ] at hS)) | ((with_reducible apply zr_seq)) | ((with_reducible apply zr_region); (try simp only [List.append_eq, List.cons_append, List.nil_append])) | ((with_reducible apply zo_end)) | ((with_reducible apply zs_move); (exact rfl); (exact rfl)) | ((with_reducible apply zs_assign); (exact rfl); (exact rfl)) | ((with_reducible apply zs_len); (exact rfl); (exact rfl); (exact un_sl rfl)) | ((with_reducible apply zr_block)) | ((with_reducible apply zs_field_ptr); (exact rfl); (exact rfl); (exact fld_of rfl)) | ((with_reducible apply zs_load_ptr); (exact rfl); (exact rfl); (exact sh_of rfl); (first | assumption | exact St.setH_self _ _ _ | exact Sep.at_ (i := 0) (by assumption) rfl | exact Sep.at_ (i := 1) (by assumption) rfl | exact Sep.at_ (i := 2) (by assumption) rfl | exact Sep.at_ (i := 3) (by assumption) rfl | exact Sep.at_ (i := 4) (by assumption) rfl | exact Sep.at_ (i := 5) (by assumption) rfl | exact Sep.at_ (i := 6) (by assumption) rfl); (first | exact rfl | assumption)) | ((with_reducible apply zs_load_refAll); (exact rfl); (exact rfl); (exact sh_of rfl); (exact rfl)) | ((with_reducible apply (zs_boxRef (t := 3))); (exact rfl); (exact rfl)) | ((with_reducible apply (zs_callQ still_pf cl_33)); (exact rfl); (exact rfl); ((repeat (first | exact DLes.nil | (apply DLes.cons; first | exact DLe.refl _ | exact DLe.nilB | exact DLe.nilR | exact DLe.nilI)))); (first | exact trivial | assumption | ((repeat' (with_reducible refine And.intro ?_ ?_)) <;> first | assumption | omega | exact trivial | (simp; done) | (simp; omega)))) | ((with_reducible apply (zs_salloc (t := 6))); (exact rfl); (exact el_of rfl); (simp [oneD, Value.oneCell']); (assumption); (intro a6 sS hS)) | ((with_reducible apply (zs_salloc (t := 8))); (exact rfl); (exact el_of rfl); (simp [oneD, Value.oneCell']); (assumption); (intro a8 sS hS))))
  replace hS := (hS.addNone []).addNone []
  refine zr_loopK [1, 2, 3, 6, 8, 18, 19] (fun m e s => ∃ i o c f o2 c2 f2, m + i = n.msgs.length ∧ e = [(10, orow o (mineL n.keys k most (n.msgs.take i)).1.length c), (20, .v (.int .i64 (i : Nat)))] ∧ Zm.Sep st s [(o, f), (o2, f2), (some a8, [.v (.bool n.leaf), .row (rowR n.keys) 1 0, .row (rowR n.vals) 1 0, .row (intR n.kids) 1 0, orow o2 (mineL n.keys k most (n.msgs.take i)).2.length c2]), (some a6, [.v (.bool false), .v (.slice none 0 0), .v (.slice none 0 0), .v (.slice none 0 0), .v (.slice none 0 0)])] ∧
      GRow o f 3 (mineL n.keys k most (n.msgs.take i)).1.length c (msgR (mineL n.keys k most (n.msgs.take i)).1).flatten ∧ GRow o2 f2 3 (mineL n.keys k most (n.msgs.take i)).2.length c2 (msgR (mineL n.keys k most (n.msgs.take i)).2).flatten) n.msgs.length _ zq18 ⟨0, none, 0, [], none, 0, [], by simp, rfl, hS, GRow.empty 3, GRow.empty 3⟩ zq21 ?_
  rintro m e s ⟨i, o, c, f, o2, c2, f2, hm, rfl, hS, hg, hg2⟩
  have hA := hlen (n.msgs.take i)
  rw [List.length_take] at hA
  (repeat (first | ((with_reducible apply zr_seq)) | ((with_reducible apply zr_region); (try simp only [List.append_eq, List.cons_append, List.nil_append])) | ((with_reducible apply zo_end)) | ((with_reducible apply zs_lss); (exact rfl); (exact rfl); (exact rfl))))
  (first | refine zr_cond rfl (fun h1 => ?_) (fun h1 => ?_) | refine zs_split rfl rfl (fun h1 => ?_) (fun h1 => ?_)) <;> have h1' := h1 <;> (try simp only [decide_eq_true_eq, decide_eq_false_iff_not, Bool.and_eq_true, Bool.or_eq_true, Bool.and_eq_false_iff, Bool.or_eq_false_iff, Bool.not_eq_true', Bool.not_eq_false', Bool.not_eq_true, Bool.not_eq_false, Int.not_le, Int.not_lt, Classical.not_not, Decidable.not_not, ne_eq, beq_iff_eq, bne_iff_ne] at h1')
  · simp only [msgR_length] at h1'
    obtain ⟨b, hb, hbt, _, hbg⟩ := eltM (l := n.msgs) (i := i) (by omega)
    have happ := mineL_app n.keys k most (n.msgs.take i) b
    rw [← hbt] at happ
    generalize hX : mineL n.keys k most (n.msgs.take i) = X at *
    obtain ⟨A, B⟩ := X
    simp only at hg hg2 hA happ hS
    (repeat (first | ((with_reducible apply zr_seq)) | ((with_reducible apply zr_region); (try simp only [List.append_eq, List.cons_append, List.nil_append])) | ((with_reducible apply zo_end)) | ((with_reducible apply zs_move); (exact rfl); (exact rfl)) | ((with_reducible apply zs_lss); (exact rfl); (exact rfl); (exact rfl)) | ((with_reducible apply zr_block)) | ((with_reducible apply zr_skip')) | ((with_reducible apply zs_load_refAll); (exact rfl); (exact rfl); (exact sh_of rfl); (exact rfl)) | ((with_reducible apply zs_and); (exact rfl); (exact rfl); (intro hp_; first | exact congrArg some (gd_t hp_) | exact rfl); (exact rfl)) | ((with_reducible apply zs_idxE); (exact rfl); (exact rfl); (exact rfl); (exact un_sl rfl); (exact ii_of rfl); (first | omega | (simp only [List.length_map, List.length_take, List.length_drop, List.length_append, List.length_cons, List.length_nil, List.length_replicate, rowR_length, intR_length, msgR_length, pairR_length]; omega) | decide); (first | omega | (simp only [List.length_map, List.length_take, List.length_drop, List.length_append, List.length_cons, List.length_nil, List.length_replicate, rowR_length, intR_length, msgR_length, pairR_length]; omega) | decide); (first | (with_reducible exact Int.toNat_natCast _) | (simp only [Int.reduceToNat]; exact rfl) | exact rfl); (assumption)) | ((with_reducible apply zs_len_orow); (exact rfl); (exact rfl); (first | exact GRow.nil0 (by assumption)); (exact un_sl rfl)) | ((with_reducible apply (zs_allocRef (t := 12))); (exact el_of rfl); (simp [oneD, Value.oneCell']); (exact sh_of rfl); (exact rfl); (intro _; exact rfl); (exact rfl); (simp [cellsD, oneD, Value.oneCell', msgD, nodeD, pairD])) | ((with_reducible apply (zs_h_move [])); (exact rfl); (first | exact GC.t rfl rfl | exact GC.f rfl rfl | exact GC.gt rfl rfl | exact GC.gf rfl rfl); (exact rfl); (intro hc_; first | exact congrArg some (gd_t hc_) | exact congrArg some (gd_t (band_l hc_)) | exact congrArg some (gd_t (band_l (band_l hc_))) | exact rfl)) | ((with_reducible apply (zs_h_eql [])); (exact rfl); (first | exact GC.t rfl rfl | exact GC.f rfl rfl | exact GC.gt rfl rfl | exact GC.gf rfl rfl); (exact rfl); (intro hc_; first | exact congrArg some (gd_t hc_) | exact congrArg some (gd_t (band_l hc_)) | exact congrArg some (gd_t (band_l (band_l hc_))) | exact rfl); (intro hc_; first | exact congrArg some (gd_t hc_) | exact congrArg some (gd_t (band_l hc_)) | exact congrArg some (gd_t (band_l (band_l hc_))) | exact rfl)) | ((with_reducible apply (zs_h_field_ref [])); (exact rfl); (first | exact GC.t rfl rfl | exact GC.f rfl rfl | exact GC.gt rfl rfl | exact GC.gf rfl rfl); (exact rfl); (intro hc_; first | exact congrArg some (gd_t hc_) | exact congrArg some (gd_t (band_l hc_)) | exact congrArg some (gd_t (band_l (band_l hc_))) | exact rfl); (intro _; exact fld_of rfl)) | ((with_reducible apply (zs_h_load_ref [])); (exact rfl); (first | exact GC.t rfl rfl | exact GC.f rfl rfl | exact GC.gt rfl rfl | exact GC.gf rfl rfl); (exact rfl); (intro hc_; first | exact congrArg some (gd_t hc_) | exact congrArg some (gd_t (band_l hc_)) | exact congrArg some (gd_t (band_l (band_l hc_))) | exact rfl); (intro _; exact sh_of rfl); (intro _; exact rfl)) | ((with_reducible apply (zs_h_load_refAll [])); (exact rfl); (first | exact GC.t rfl rfl | exact GC.f rfl rfl | exact GC.gt rfl rfl | exact GC.gf rfl rfl); (exact rfl); (intro hc_; first | exact congrArg some (gd_t hc_) | exact congrArg some (gd_t (band_l hc_)) | exact congrArg some (gd_t (band_l (band_l hc_))) | exact rfl); (exact sh_of rfl); (exact rfl)) | ((with_reducible apply (zs_h_callQ [] way_pf cl_14)); (exact rfl); (first | exact GC.t rfl rfl | exact GC.f rfl rfl | exact GC.gt rfl rfl | exact GC.gf rfl rfl); (exact rfl); (intro hc_; (repeat ((with_reducible apply evs_cons); (first | exact congrArg some (gd_t hc_) | exact congrArg some (gd_t (band_l hc_)) | exact rfl))); exact evs_nil); ((repeat (first | exact DLes.nil | (apply DLes.cons; first | exact DLe.refl _ | exact DLe.nilB | exact DLe.nilR | exact DLe.nilI)))); (intro hc_; first | exact trivial | assumption | ((try simp only [Bool.and_eq_true, decide_eq_true_eq, Bool.not_eq_true'] at hc_); (repeat' (with_reducible refine And.intro ?_ ?_)) <;> first | assumption | omega | exact trivial | (simp; done) | (simp; omega))))))
    (first | refine zr_cond rfl (fun h2 => ?_) (fun h2 => ?_) | refine zs_split rfl rfl (fun h2 => ?_) (fun h2 => ?_)) <;> have h2' := h2 <;> (try simp only [decide_eq_true_eq, decide_eq_false_iff_not, Bool.and_eq_true, Bool.or_eq_true, Bool.and_eq_false_iff, Bool.or_eq_false_iff, Bool.not_eq_true', Bool.not_eq_false', Bool.not_eq_true, Bool.not_eq_false, Int.not_le, Int.not_lt, Classical.not_not, Decidable.not_not, ne_eq, beq_iff_eq, bne_iff_ne] at h2')
    · rw [if_pos (by omega)] at happ
      (repeat (first | ((with_reducible apply zr_region); (try simp only [List.append_eq, List.cons_append, List.nil_append])) | ((with_reducible apply zo_end)) | ((with_reducible apply zo_endB)) | ((with_reducible apply zs_move); (exact rfl); (exact rfl)) | ((with_reducible apply zs_assign); (exact rfl); (exact rfl)) | ((with_reducible apply zs_add); (exact rfl); (exact rfl); (exact rfl); (first | (with_reducible assumption) | exact wrap_in64 (by omega) (by omega))) | ((with_reducible apply zs_load_refAll); (exact rfl); (exact rfl); (exact sh_of rfl); (exact rfl)) | ((with_reducible apply (zs_lit (t := 38) [.tmp 37])); (exact rfl); (exact rfl); (exact rfl); (exact rfl); (exact un_sl rfl); (exact el_of rfl); (simp only [List.map_cons, List.map_nil, cellsD]; exact rfl); ((repeat (first | exact lit_nil | (apply lit_cons; exact rfl; (repeat (first | exact one_nil | (apply one_cons; (first | exact rfl | exact one_orow _ _ _)))))))); (decide)) | ((with_reducible apply (zs_sapp (i := 0))); (exact rfl); (exact rfl); (exact rfl); (exact un_sl rfl); (exact el_of rfl); (simp [oneD, Value.oneCell']); (assumption); (exact rfl); (assumption); (simp only [List.length_map, List.length_cons, List.length_nil, List.length_take, List.length_drop, List.length_append, rowR_length, intR_length, msgR_length, pairR_length]; omega); (intro o1 c1 f1 sS hS hg); (try simp only [List.set_cons_zero, List.set_cons_succ] at hS))))
      refine ⟨m - 1, _, by omega, ⟨i + 1, o1, c1, f1, o2, c2, f2, by omega, rfl, ?_, ?_, ?_⟩, (by rw [happ, List.length_append]; exact zq21), zq21⟩
      · rw [happ]; exact hS
      · rw [happ, List.length_append, msgR_append, List.flatten_append]; exact hg
      · rw [happ]; exact hg2
    · rw [if_neg (by omega)] at happ
      have hgA := hg
      (repeat (first | ((with_reducible apply (zs_sstore (i := 2))); (exact rfl); (exact rfl); (exact sh_of rfl); (assumption); (exact rfl); (first | exact rfl | (simp [cells_orow])); ((try rw [cells_orow]); (repeat (first | exact one_nil | (apply one_cons; (first | exact rfl | exact one_orow _ _ _))))); (first | exact Nat.le_of_ble_eq_true rfl | omega | (focus (simp [cellsD, msgD, nodeD, pairD]; done))); (first | (simp only [cells_orow, cD_int, cD_bool, cD_float, cD_nil, cD_ptr0, cD_str, cD_row, cD_mrow, cD_ptr, cD_ref, cD_fn, cD_agg, List.take_zero, List.take_succ_cons, List.take_nil, List.drop_succ_cons, List.drop_zero, List.drop_nil, List.nil_append, List.cons_append, List.append_nil, Nat.zero_add, Nat.reduceAdd]; exact rfl) | exact rfl); (intro sS hS); (try simp only [List.set_cons_zero, List.set_cons_succ] at hS)) | ((with_reducible apply zr_region); (try simp only [List.append_eq, List.cons_append, List.nil_append])) | ((with_reducible apply zo_end)) | ((with_reducible apply zo_endB)) | ((with_reducible apply zs_move); (exact rfl); (exact rfl)) | ((with_reducible apply zs_add); (exact rfl); (exact rfl); (exact rfl); (first | (with_reducible assumption) | exact wrap_in64 (by omega) (by omega))) | ((with_reducible apply zs_field_ptr); (exact rfl); (exact rfl); (exact fld_of rfl)) | ((with_reducible apply zs_load_ptr); (exact rfl); (exact rfl); (exact sh_of rfl); (first | assumption | exact St.setH_self _ _ _ | exact Sep.at_ (i := 0) (by assumption) rfl | exact Sep.at_ (i := 1) (by assumption) rfl | exact Sep.at_ (i := 2) (by assumption) rfl | exact Sep.at_ (i := 3) (by assumption) rfl | exact Sep.at_ (i := 4) (by assumption) rfl | exact Sep.at_ (i := 5) (by assumption) rfl | exact Sep.at_ (i := 6) (by assumption) rfl); (first | exact rfl | assumption)) | ((with_reducible apply zs_load_refAll); (exact rfl); (exact rfl); (exact sh_of rfl); (exact rfl)) | ((with_reducible apply (zs_lit (t := 43) [.tmp 42])); (exact rfl); (exact rfl); (exact rfl); (exact rfl); (exact un_sl rfl); (exact el_of rfl); (simp only [List.map_cons, List.map_nil, cellsD]; exact rfl); ((repeat (first | exact lit_nil | (apply lit_cons; exact rfl; (repeat (first | exact one_nil | (apply one_cons; (first | exact rfl | exact one_orow _ _ _)))))))); (decide)) | ((with_reducible apply (zs_sapp (i := 1))); (exact rfl); (exact rfl); (exact rfl); (exact un_sl rfl); (exact el_of rfl); (simp [oneD, Value.oneCell']); (assumption); (exact rfl); (assumption); (simp only [List.length_map, List.length_cons, List.length_nil, List.length_take, List.length_drop, List.length_append, rowR_length, intR_length, msgR_length, pairR_length]; omega); (intro o1 c1 f1 sS hS hg); (try simp only [List.set_cons_zero, List.set_cons_succ] at hS))))
      refine ⟨m - 1, _, by omega, ⟨i + 1, o, c, f, o1, c1, f1, by omega, rfl, ?_, ?_, ?_⟩, (by rw [happ]; exact zq21), zq21⟩
      · rw [happ, List.length_append]; exact hS
      · rw [happ]; exact hgA
      · rw [happ, List.length_append, msgR_append, List.flatten_append]; exact hg
  · have hi : i = n.msgs.length := by simp only [msgR_length] at h1'; omega
    subst hi
    rw [List.take_length] at hg hg2 hS ⊢
    (repeat (first | ((with_reducible apply (zs_sstore (i := 3))); (exact rfl); (exact rfl); (exact sh_of rfl); (assumption); (exact rfl); (first | exact rfl | (simp [cells_orow])); ((try rw [cells_orow]); (repeat (first | exact one_nil | (apply one_cons; (first | exact rfl | exact one_orow _ _ _))))); (first | exact Nat.le_of_ble_eq_true rfl | omega | (focus (simp [cellsD, msgD, nodeD, pairD]; done))); (first | (simp only [cells_orow, cD_int, cD_bool, cD_float, cD_nil, cD_ptr0, cD_str, cD_row, cD_mrow, cD_ptr, cD_ref, cD_fn, cD_agg, List.take_zero, List.take_succ_cons, List.take_nil, List.drop_succ_cons, List.drop_zero, List.drop_nil, List.nil_append, List.cons_append, List.append_nil, Nat.zero_add, Nat.reduceAdd]; exact rfl) | exact rfl); (intro sS hS); (try simp only [List.set_cons_zero, List.set_cons_succ] at hS)) | ((with_reducible apply zr_seq)) | ((with_reducible apply zr_region); (try simp only [List.append_eq, List.cons_append, List.nil_append])) | ((with_reducible apply zo_end)) | ((with_reducible apply zs_move); (exact rfl); (exact rfl)) | ((with_reducible apply zs_assign); (exact rfl); (exact rfl)) | (with_reducible refine zr_exit ?_; simp only [Zthen, Zblock, ↓reduceIte]) | ((with_reducible apply zs_load_ptrA); (exact rfl); (exact rfl); (exact sh_of rfl); (first | assumption | exact St.setH_self _ _ _ | exact Sep.at_ (i := 0) (by assumption) rfl | exact Sep.at_ (i := 1) (by assumption) rfl | exact Sep.at_ (i := 2) (by assumption) rfl | exact Sep.at_ (i := 3) (by assumption) rfl | exact Sep.at_ (i := 4) (by assumption) rfl | exact Sep.at_ (i := 5) (by assumption) rfl | exact Sep.at_ (i := 6) (by assumption) rfl); (first | exact Nat.le_of_ble_eq_true rfl | exact (by decide) | (focus (simp [cellsD]; done))); (first | (simp only [cells_orow, cD_int, cD_bool, cD_float, cD_nil, cD_ptr0, cD_str, cD_row, cD_mrow, cD_ptr, cD_ref, cD_fn, cD_agg, List.take_zero, List.take_succ_cons, List.take_nil, List.drop_succ_cons, List.drop_zero, List.drop_nil, List.nil_append, List.cons_append, List.append_nil, Nat.zero_add, Nat.reduceAdd]; exact rfl) | exact rfl)) | ((with_reducible apply zr_retZ); (exact rfl); (repeat (first | exact resD_nil _ _ _ | ((with_reducible apply resD_tmp); (exact rfl)) | ((with_reducible apply resD_cell_agg); (exact rfl); (exact sh_of rfl); (first | assumption | exact St.setH_self _ _ _ | exact Sep.at_ (i := 0) (by assumption) rfl | exact Sep.at_ (i := 1) (by assumption) rfl | exact Sep.at_ (i := 2) (by assumption) rfl | exact Sep.at_ (i := 3) (by assumption) rfl | exact Sep.at_ (i := 4) (by assumption) rfl | exact Sep.at_ (i := 5) (by assumption) rfl | exact Sep.at_ (i := 6) (by assumption) rfl); (exact rfl)) | ((with_reducible apply resD_cell); (exact rfl); (exact sh_of rfl); (first | assumption | exact St.setH_self _ _ _ | exact Sep.at_ (i := 0) (by assumption) rfl | exact Sep.at_ (i := 1) (by assumption) rfl | exact Sep.at_ (i := 2) (by assumption) rfl | exact Sep.at_ (i := 3) (by assumption) rfl | exact Sep.at_ (i := 4) (by assumption) rfl | exact Sep.at_ (i := 5) (by assumption) rfl | exact Sep.at_ (i := 6) (by assumption) rfl); (exact rfl)))); (simp only [resOf]))))
    exact KE.mk _ (Ext.refl _) (hK _ _ _ _ _ _ _ ((hS.erase 2).erase 2) hg hg2)
theorem chunk_pf {n : NodeV} {k most : Nat} (h : NodeB n ∧ Srt n.keys) : PureF Try.prog 19 [.agg (nodeD n), .v (.int .i64 (k : Nat)), .v (.int .i64 (most : Nat))]
    (.tup [.agg (nodeD { n with msgs := (mineL n.keys k most n.msgs).2 }), .row (msgR (mineL n.keys k most n.msgs).1) 3 0]) :=
  PureF.ofOwn fun st K hK => ⟨chunkOwn, chunk_own, n, k, most, rfl, h.1, h.2, fun o c f o2 c2 f2 st' hS g1 g2 => by
    obtain ⟨e1, k1⟩ := OR.mk_ok (by decide) g1 rfl (msgR_three _)
    obtain ⟨e2, k2⟩ := OR.mk_ok (by decide) g2 rfl (msgR_three _)
    refine hK [⟨o, f, 3, c, msgR (mineL n.keys k most n.msgs).1⟩, ⟨o2, f2, 3, c2, msgR (mineL n.keys k most n.msgs).2⟩] st' _ hS (fun r hr => ?_) fun G hr => ?_
    · simp only [List.mem_cons, List.not_mem_nil, or_false] at hr
      rcases hr with rfl | rfl <;> assumption
    · have r1 := hr _ (.head _)
      have r2 := hr _ (.tail _ (.head _))
      unfold OR.own OR.row at r1 r2
      simp only at r1 r2
      rw [e1] at r1; rw [e2] at r2
      exact AtLe.tup (.cons (AtLe.agg (.cons .same (.cons .same (.cons .same (.cons .same (.cons r2 .nil)))))) (.cons r1 .nil))⟩
end Go.Proofs.ZtLe
