/- A part of the proof of LeafDeletes: walks of the functions that it reaches. No condition. -/
import Derived.Test.YtocpidlgcakldaaZtLfC
import Derived.Test.YtocpidlgcakldaaZtInQ
import Derived.Test.YtocpidlgcakldaaZmAuto
namespace Go.Proofs.ZtLe
open Go.RowKit Go.Proofs Go.Proofs.Zm
set_option linter.unusedVariables false
set_option linter.unusedSimpArgs false
set_option maxHeartbeats 20000000
set_option maxRecDepth 100000
attribute [local irreducible] ZWp ZOps ZPure ZPure0 ZVal ZOp SoundF

/-! ### LeafDeletes -/
theorem dle_app2 {a b : List MsgV} : DLe (.row (List.map cellsD [] ++ msgR a ++ msgR b) 3 0) (.row (msgR (a ++ b)) 3 0) := by rw [msgR_append]; exact .refl _
theorem dels_length (p : List PairV) : (delsOf p).length = p.length := by simp [delsOf]
theorem puts_length (p : List PairV) : (putsOf p).length = p.length := by simp [putsOf]
theorem mem_dels {p : List PairV} (h : ∀ q ∈ p, PB q) : ∀ m ∈ delsOf p, MB m := fun m hm => by
  obtain ⟨x, hx, rfl⟩ := List.mem_map.1 hm
  exact ⟨(h x hx).1, by simp⟩
theorem mem_puts {p : List PairV} (h : ∀ q ∈ p, PB q) : ∀ m ∈ putsOf p, MB m := fun m hm => by
  obtain ⟨x, hx, rfl⟩ := List.mem_map.1 hm
  exact h x hx
def lawCL : ZSpec := fun args st K => ∃ (c : CfgV) (l : List Int) (tl : Nat), args = [.agg (cfgD c), .row (intR l) 1 tl] ∧ l.length ≤ 140737488351232 ∧ K (.v (.bool true)) st
theorem deletes_snd : SoundF Try.prog 8 lawCL := by
  refine sound_ofA Try.func8 rfl Try.results8 ?_
  rintro w0 args st K ⟨c, l, tl, rfl, hl, hK⟩
  rw [Try.ntmps8]; refine ⟨by simp, ?_⟩
  refine zr_as 1 (.row (intR l) 1 0) rfl zq3 ?_
  have hS := Sep.nil st
  (repeat (first | ((with_reducible apply zr_seq)) | ((with_reducible apply zr_region); (try simp only [List.append_eq, List.cons_append, List.nil_append])) | ((with_reducible apply zo_end)) | ((with_reducible apply zs_assign); (exact rfl); (exact rfl)) | ((with_reducible apply zs_load_ptrA); (exact rfl); (exact rfl); (exact sh_of rfl); (first | assumption | exact St.setH_self _ _ _ | exact Sep.at_ (i := 0) (by assumption) rfl | exact Sep.at_ (i := 1) (by assumption) rfl | exact Sep.at_ (i := 2) (by assumption) rfl | exact Sep.at_ (i := 3) (by assumption) rfl | exact Sep.at_ (i := 4) (by assumption) rfl | exact Sep.at_ (i := 5) (by assumption) rfl | exact Sep.at_ (i := 6) (by assumption) rfl); (first | exact Nat.le_of_ble_eq_true rfl | exact (by decide) | (focus (simp [cellsD]; done))); (first | (simp only [cells_orow, cD_int, cD_bool, cD_float, cD_nil, cD_ptr0, cD_str, cD_row, cD_mrow, cD_ptr, cD_ref, cD_fn, cD_agg, List.take_zero, List.take_succ_cons, List.take_nil, List.drop_succ_cons, List.drop_zero, List.drop_nil, List.nil_append, List.cons_append, List.append_nil, Nat.zero_add, Nat.reduceAdd]; exact rfl) | exact rfl)) | ((with_reducible apply (zs_sbox (t := 2))); (exact rfl); (exact rfl); (focus (simp [cellsD, oneD, Value.oneCell', msgD, nodeD, pairD, cfgD]; done)); (assumption); (intro a2 sS hS))))
  (try ((with_reducible apply zs_yes); exact rfl; exact rfl; (first | assumption | exact rfl))); refine zo_callU (small_ps (c := c) trivial) Try.func21 (by kernel_rfl) rfl rfl rfl rfl (by decide) rfl rfl (by first | exact Ups.nilrow 1 (Ups.nilrow 1 (Ups.nilrow 1 (Ups.refl _))) | exact Ups.nilrow 1 (Ups.nilrow 1 (Ups.refl _)) | exact Ups.same (Ups.nilrow 1 (Ups.nilrow 1 (Ups.refl _))) | exact Ups.nilrow 1 (Ups.same (Ups.nilrow 1 (Ups.refl _))) | exact Ups.nilrow 1 (Ups.refl _) | exact Ups.same (Ups.nilrow 1 (Ups.refl _)) | exact Ups.same (Ups.same (Ups.nilrow 1 (Ups.refl _))) | exact Ups.refl _) ?_; refine ⟨rfl, fun d hd => ?_⟩; obtain ⟨c, rfl, hc⟩ := hd
  have hk1 := hc.hkey.1
  have hk2 := hc.hkey.2
  have hl1 := hc.hl.1
  have hl2 := hc.hl.2
  have hcc := hc.hc
  obtain ⟨L, hL⟩ : ∃ L : Nat, c.l = (L : Int) := ⟨c.l.toNat, by omega⟩
  (repeat (first | ((with_reducible apply (zs_sstore (i := 0))); (exact rfl); (exact rfl); (exact sh_of rfl); (assumption); (exact rfl); (first | exact rfl | (simp [cells_orow])); ((try rw [cells_orow]); (repeat (first | exact one_nil | (apply one_cons; (first | exact rfl | exact one_orow _ _ _))))); (first | exact Nat.le_of_ble_eq_true rfl | omega | (focus (simp [cellsD, msgD, nodeD, pairD, cfgD]; done))); (first | (simp only [cells_orow, cD_int, cD_bool, cD_float, cD_nil, cD_ptr0, cD_str, cD_row, cD_mrow, cD_ptr, cD_ref, cD_fn, cD_agg, List.take_zero, List.take_succ_cons, List.take_nil, List.drop_succ_cons, List.drop_zero, List.drop_nil, List.nil_append, List.cons_append, List.append_nil, Nat.zero_add, Nat.reduceAdd]; exact rfl) | exact rfl); (intro sS hS); (try simp only [List.set_cons_zero, List.set_cons_succ] at hS)) | ((with_reducible apply zr_seq)) | ((with_reducible apply zr_region); (try simp only [List.append_eq, List.cons_append, List.nil_append])) | ((with_reducible apply zo_end)) | ((with_reducible apply zs_move); (exact rfl); (exact rfl)) | ((with_reducible apply zs_load_ptrA); (exact rfl); (exact rfl); (exact sh_of rfl); (first | assumption | exact St.setH_self _ _ _ | exact Sep.at_ (i := 0) (by assumption) rfl | exact Sep.at_ (i := 1) (by assumption) rfl | exact Sep.at_ (i := 2) (by assumption) rfl | exact Sep.at_ (i := 3) (by assumption) rfl | exact Sep.at_ (i := 4) (by assumption) rfl | exact Sep.at_ (i := 5) (by assumption) rfl | exact Sep.at_ (i := 6) (by assumption) rfl); (first | exact Nat.le_of_ble_eq_true rfl | exact (by decide) | (focus (simp [cellsD]; done))); (first | (simp only [cells_orow, cD_int, cD_bool, cD_float, cD_nil, cD_ptr0, cD_str, cD_row, cD_mrow, cD_ptr, cD_ref, cD_fn, cD_agg, List.take_zero, List.take_succ_cons, List.take_nil, List.drop_succ_cons, List.drop_zero, List.drop_nil, List.nil_append, List.cons_append, List.append_nil, Nat.zero_add, Nat.reduceAdd]; exact rfl) | exact rfl))))
  have hS : Zm.Sep st sS [(some a2, cfgD c)] := hS
  skip
  (try ((with_reducible apply zs_yes); exact rfl; exact rfl; (first | assumption | exact rfl))); refine zo_callU (pairs_ps (c := c) (l := l) (tl := 0) ⟨by omega, by omega, by omega⟩) Try.func29 (by kernel_rfl) rfl rfl rfl rfl (by decide) rfl rfl (by first | exact Ups.nilrow 1 (Ups.nilrow 1 (Ups.nilrow 1 (Ups.refl _))) | exact Ups.nilrow 1 (Ups.nilrow 1 (Ups.refl _)) | exact Ups.same (Ups.nilrow 1 (Ups.nilrow 1 (Ups.refl _))) | exact Ups.nilrow 1 (Ups.same (Ups.nilrow 1 (Ups.refl _))) | exact Ups.nilrow 1 (Ups.refl _) | exact Ups.same (Ups.nilrow 1 (Ups.refl _)) | exact Ups.same (Ups.same (Ups.nilrow 1 (Ups.refl _))) | exact Ups.refl _) ?_
  refine ⟨rfl, fun d hd => ?_⟩
  obtain ⟨p, rfl, hp⟩ := hd
  have hr0 : (pairR p).length = p.length := pairR_length _
  obtain ⟨k, hk⟩ : ∃ k : Nat, min ((pairR p).length : Int) c.l = (k : Int) := Int.eq_ofNat_of_zero_le (by omega)
  (repeat (first | ((with_reducible apply zr_seq)) | ((with_reducible apply zr_region); (try simp only [List.append_eq, List.cons_append, List.nil_append])) | ((with_reducible apply zo_end)) | ((with_reducible apply zs_move); (exact rfl); (exact rfl)) | ((with_reducible apply zs_assign); (exact rfl); (exact rfl)) | ((with_reducible apply zs_len); (exact rfl); (exact rfl); (exact un_sl rfl)) | ((with_reducible apply zr_block)) | ((with_reducible apply zs_field_ptr); (exact rfl); (exact rfl); (exact fld_of rfl)) | ((with_reducible apply zs_load_ptr); (exact rfl); (exact rfl); (exact sh_of rfl); (first | assumption | exact St.setH_self _ _ _ | exact Sep.at_ (i := 0) (by assumption) rfl | exact Sep.at_ (i := 1) (by assumption) rfl | exact Sep.at_ (i := 2) (by assumption) rfl | exact Sep.at_ (i := 3) (by assumption) rfl | exact Sep.at_ (i := 4) (by assumption) rfl | exact Sep.at_ (i := 5) (by assumption) rfl | exact Sep.at_ (i := 6) (by assumption) rfl); (first | exact rfl | assumption)) | ((with_reducible apply zs_cuthi); (exact rfl); (exact rfl); (exact un_sl rfl); (exact ii_of rfl); (exact rfl); (first | omega | (simp only [List.length_map, List.length_take, List.length_drop, List.length_append, List.length_cons, List.length_nil, List.length_replicate, rowR_length, intR_length, msgR_length, pairR_length, lnodesR_length]; omega) | decide); (first | omega | (simp only [List.length_map, List.length_take, List.length_drop, List.length_append, List.length_cons, List.length_nil, List.length_replicate, rowR_length, intR_length, msgR_length, pairR_length, lnodesR_length]; omega) | decide); (first | (with_reducible exact Int.toNat_natCast _) | (simp only [Int.reduceToNat]; exact rfl) | exact rfl)) | ((with_reducible apply zs_min); (exact rfl); (exact rfl); (exact rfl); (first | (with_reducible assumption) | exact rfl))))
  rw [pairR_take]
  have hps : Srt (keysP (p.take k)) := by unfold keysP; rw [List.map_take]; exact Srt.take hp.srt k
  have hpb : ∀ q ∈ p.take k, PB q := fun q hq => hp.lpb q (List.mem_of_mem_take hq)
  have hpl : (p.take k).length ≤ 40 ∧ (p.take k).length ≤ L := by rw [List.length_take]; have := hp.len; omega
  generalize p.take k = P at *
  obtain ⟨hpl, hpL⟩ := hpl
  have hr1 : (pairR P).length = P.length := pairR_length _
  skip
  refine zr_freezeK (id := a2) [2, 5, 6, 7, 8] (hS.at_ (i := 0) rfl) zq12 rfl ?_
  replace hS := hS.drop (i := 0) rfl
  replace hS := (hS.addNone []).addNone []
  refine zr_as 2 (.ref (cfgD c)) rfl zq3 ?_
  have hS : Zm.Sep st (sS.setH a2 none) [(none, []), (none, [])] := hS
  refine zr_loopK [2, 5] (fun m e s => ∃ i o1 c1 f1 o2 c2 f2, m + i = P.length ∧ e = [(6, orow o1 i c1), (7, orow o2 i c2), (8, .v (.int .i64 (i : Nat)))] ∧ Zm.Sep st s [(o1, f1), (o2, f2)] ∧ GRow o1 f1 3 i c1 (msgR (delsOf (P.take i))).flatten ∧ GRow o2 f2 3 i c2 (msgR (putsOf (P.take i))).flatten) P.length _ zq20 ⟨0, none, 0, [], none, 0, [], by simp, rfl, hS, GRow.empty 3, GRow.empty 3⟩ zq23 ?_
  rintro m e s ⟨i, o1, c1, f1, o2, c2, f2, hm, rfl, hS, hg1, hg2⟩
  (repeat (first | ((with_reducible apply zr_seq)) | ((with_reducible apply zr_region); (try simp only [List.append_eq, List.cons_append, List.nil_append])) | ((with_reducible apply zo_end)) | ((with_reducible apply zs_move); (exact rfl); (exact rfl)) | ((with_reducible apply zs_lss); (exact rfl); (exact rfl); (exact rfl)) | ((with_reducible apply zs_len); (exact rfl); (exact rfl); (exact un_sl rfl))))
  (first | refine zr_cond rfl (fun h1 => ?_) (fun h1 => ?_) | refine zs_split rfl rfl (fun h1 => ?_) (fun h1 => ?_)) <;> have h1' := h1 <;> (try simp only [decide_eq_true_eq, decide_eq_false_iff_not, Bool.and_eq_true, Bool.or_eq_true, Bool.and_eq_false_iff, Bool.or_eq_false_iff, Bool.not_eq_true', Bool.not_eq_false', Bool.not_eq_true, Bool.not_eq_false, Int.not_le, Int.not_lt, Classical.not_not, Decidable.not_not, ne_eq, beq_iff_eq, bne_iff_ne] at h1')
  · obtain ⟨q, hq, hqt, _, hqg⟩ := eltP (l := P) (i := i) (by omega)
    (repeat (first | ((with_reducible apply zr_seq)) | ((with_reducible apply zr_region); (try simp only [List.append_eq, List.cons_append, List.nil_append])) | ((with_reducible apply zs_move); (exact rfl); (exact rfl)) | ((with_reducible apply zr_block)) | ((with_reducible apply zr_skip')) | ((with_reducible apply zs_field_ref); (exact rfl); (exact rfl); (exact fld_of rfl)) | ((with_reducible apply zs_load_ref); (exact rfl); (exact rfl); (exact sh_of rfl); (exact rfl)) | ((with_reducible apply zs_build); (exact rfl); (exact el_of rfl); (exact st_of rfl); (exact rfl); (first | (simp only [fillD, cellsD, cells_orow, List.take_zero, List.take_succ_cons, List.take_nil, List.drop_succ_cons, List.drop_zero, List.drop_nil, List.nil_append, List.cons_append, List.append_nil, Nat.zero_add, Nat.reduceAdd, List.length_cons, List.length_nil]; exact rfl) | ((repeat (apply fillD_cons; exact rfl; (first | exact rfl | simp [cells_orow]); (exact Nat.le_of_ble_eq_true rfl); (simp only [cells_orow, cD_int, cD_bool, cD_float, cD_nil, cD_ptr0, cD_str, cD_row, cD_mrow, cD_ptr, cD_ref, cD_fn, cD_agg, List.take_zero, List.take_succ_cons, List.take_nil, List.drop_succ_cons, List.drop_zero, List.drop_nil, List.nil_append, List.cons_append, List.append_nil, Nat.zero_add, Nat.reduceAdd]; exact rfl))); exact rfl) | exact rfl)) | ((with_reducible apply zs_idxE); (exact rfl); (exact rfl); (exact rfl); (exact un_sl rfl); (exact ii_of rfl); (first | omega | (simp only [List.length_map, List.length_take, List.length_drop, List.length_append, List.length_cons, List.length_nil, List.length_replicate, rowR_length, intR_length, msgR_length, pairR_length, lnodesR_length]; omega) | decide); (first | omega | (simp only [List.length_map, List.length_take, List.length_drop, List.length_append, List.length_cons, List.length_nil, List.length_replicate, rowR_length, intR_length, msgR_length, pairR_length, lnodesR_length]; omega) | decide); (first | (with_reducible exact Int.toNat_natCast _) | (simp only [Int.reduceToNat]; exact rfl) | exact rfl); (assumption))))
    refine zo_as 41 (.agg (msgD (2, q.1, []))) rfl zq3 ?_
    (try ((with_reducible apply zs_yes); exact rfl; exact rfl; (first | assumption | exact rfl))); refine zo_val rfl rfl (by decide) (zv_litR (xs := [.tmp 41]) _ rfl rfl rfl zq37 zq34 zq29 (by repeat (first | exact lit_nil | (apply lit_cons; exact rfl; (repeat (first | exact one_nil | (apply one_cons; exact rfl)))))) (by decide) ?_)
    (repeat (first | ((with_reducible apply zo_end)) | ((with_reducible apply zs_assign); (exact rfl); (exact rfl)) | ((with_reducible apply (zs_sapp (i := 0))); (exact rfl); (exact rfl); (exact rfl); (exact un_sl rfl); (exact el_of rfl); (simp [oneD, Value.oneCell']); (assumption); (exact rfl); (assumption); (simp only [List.length_map, List.length_cons, List.length_nil, List.length_take, List.length_drop, List.length_append, rowR_length, intR_length, msgR_length, pairR_length, lnodesR_length]; omega); (intro o1 c1 f1 sS hS hg); (try simp only [List.set_cons_zero, List.set_cons_succ] at hS))))
    have hgA := hg
    have hg := hg2
    refine zc_begin (m := 15) ([]) [] (by kernel_rfl) rfl ?_
    refine zc_take0 (i := 0) rfl (by kernel_rfl) (by kernel_rfl) (by kernel_rfl) (by kernel_rfl) zq27 rfl rfl (ZPure0.pure (zp_move rfl rfl)) ?_
    refine zc_take0 (i := 1) rfl (by kernel_rfl) (by kernel_rfl) (by kernel_rfl) (by kernel_rfl) zq27 rfl rfl (ZPure0.pure (zp_move rfl rfl)) ?_
    refine zc_take0 (i := 2) rfl (by kernel_rfl) (by kernel_rfl) (by kernel_rfl) (by kernel_rfl) zq27 rfl rfl (ZPure0.pure (zp_move rfl rfl)) ?_
    refine zc_take0 (i := 3) rfl (by kernel_rfl) (by kernel_rfl) (by kernel_rfl) (by kernel_rfl) zq27 rfl rfl zq0 ?_
    refine zc_take0 (i := 4) rfl (by kernel_rfl) (by kernel_rfl) (by kernel_rfl) (by kernel_rfl) zq27 rfl rfl zq18 ?_
    first | (refine zc_take0 (i := 5) rfl (by kernel_rfl) (by kernel_rfl) (by kernel_rfl) (by kernel_rfl) zq27 rfl rfl (zp_load_ref rfl zq36 rfl rfl) ?_) | (refine zc_take0 (i := 5) rfl (by kernel_rfl) (by kernel_rfl) (by kernel_rfl) (by kernel_rfl) zq27 rfl rfl (zp_load_refAll rfl zq36 rfl rfl) ?_) | (refine zc_take (i := 5) rfl (by kernel_rfl) (by kernel_rfl) (by kernel_rfl) (by kernel_rfl) (by kernel_rfl) (by kernel_rfl) zq27 rfl rfl (zpb_load rfl zq36 rfl (.head _) rfl zq31) ?_) | (refine zc_take (i := 5) rfl (by kernel_rfl) (by kernel_rfl) (by kernel_rfl) (by kernel_rfl) (by kernel_rfl) (by kernel_rfl) zq27 rfl rfl (zpb_load rfl zq36 rfl (.tail _ (.head _)) rfl zq31) ?_) | (refine zc_take (i := 5) rfl (by kernel_rfl) (by kernel_rfl) (by kernel_rfl) (by kernel_rfl) (by kernel_rfl) (by kernel_rfl) zq27 rfl rfl (zpb_load rfl zq36 rfl (.tail _ (.tail _ (.head _))) rfl zq31) ?_) | (refine zc_take (i := 5) rfl (by kernel_rfl) (by kernel_rfl) (by kernel_rfl) (by kernel_rfl) (by kernel_rfl) (by kernel_rfl) zq27 rfl rfl (zpb_load_agg rfl zq36 rfl (.head _) rfl rfl zq30) ?_) | (refine zc_take (i := 5) rfl (by kernel_rfl) (by kernel_rfl) (by kernel_rfl) (by kernel_rfl) (by kernel_rfl) (by kernel_rfl) zq27 rfl rfl (zpb_load_agg rfl zq36 rfl (.tail _ (.head _)) rfl rfl zq30) ?_) | (refine zc_take (i := 5) rfl (by kernel_rfl) (by kernel_rfl) (by kernel_rfl) (by kernel_rfl) (by kernel_rfl) (by kernel_rfl) zq27 rfl rfl (zpb_load_agg rfl zq36 rfl (.tail _ (.tail _ (.head _))) rfl rfl zq30) ?_)
    refine zc_take0 (i := 6) rfl (by kernel_rfl) (by kernel_rfl) (by kernel_rfl) (by kernel_rfl) zq27 rfl rfl (ZPure0.pure (zp_move rfl rfl)) ?_
    refine zc_take0 (i := 7) rfl (by kernel_rfl) (by kernel_rfl) (by kernel_rfl) (by kernel_rfl) zq27 rfl rfl (ZPure0.pure (zp_move rfl rfl)) ?_
    refine zc_take0 (i := 8) rfl (by kernel_rfl) (by kernel_rfl) (by kernel_rfl) (by kernel_rfl) zq27 rfl rfl zq0 ?_
    refine zc_take0 (i := 9) rfl (by kernel_rfl) (by kernel_rfl) (by kernel_rfl) (by kernel_rfl) zq27 rfl rfl zq18 ?_
    first | (refine zc_take0 (i := 10) rfl (by kernel_rfl) (by kernel_rfl) (by kernel_rfl) (by kernel_rfl) zq27 rfl rfl (zp_load_ref rfl zq36 rfl rfl) ?_) | (refine zc_take0 (i := 10) rfl (by kernel_rfl) (by kernel_rfl) (by kernel_rfl) (by kernel_rfl) zq27 rfl rfl (zp_load_refAll rfl zq36 rfl rfl) ?_) | (refine zc_take (i := 10) rfl (by kernel_rfl) (by kernel_rfl) (by kernel_rfl) (by kernel_rfl) (by kernel_rfl) (by kernel_rfl) zq27 rfl rfl (zpb_load rfl zq36 rfl (.head _) rfl zq31) ?_) | (refine zc_take (i := 10) rfl (by kernel_rfl) (by kernel_rfl) (by kernel_rfl) (by kernel_rfl) (by kernel_rfl) (by kernel_rfl) zq27 rfl rfl (zpb_load rfl zq36 rfl (.tail _ (.head _)) rfl zq31) ?_) | (refine zc_take (i := 10) rfl (by kernel_rfl) (by kernel_rfl) (by kernel_rfl) (by kernel_rfl) (by kernel_rfl) (by kernel_rfl) zq27 rfl rfl (zpb_load rfl zq36 rfl (.tail _ (.tail _ (.head _))) rfl zq31) ?_) | (refine zc_take (i := 10) rfl (by kernel_rfl) (by kernel_rfl) (by kernel_rfl) (by kernel_rfl) (by kernel_rfl) (by kernel_rfl) zq27 rfl rfl (zpb_load_agg rfl zq36 rfl (.head _) rfl rfl zq30) ?_) | (refine zc_take (i := 10) rfl (by kernel_rfl) (by kernel_rfl) (by kernel_rfl) (by kernel_rfl) (by kernel_rfl) (by kernel_rfl) zq27 rfl rfl (zpb_load_agg rfl zq36 rfl (.tail _ (.head _)) rfl rfl zq30) ?_) | (refine zc_take (i := 10) rfl (by kernel_rfl) (by kernel_rfl) (by kernel_rfl) (by kernel_rfl) (by kernel_rfl) (by kernel_rfl) zq27 rfl rfl (zpb_load_agg rfl zq36 rfl (.tail _ (.tail _ (.head _))) rfl rfl zq30) ?_)
    refine zc_take0 (i := 11) rfl (by kernel_rfl) (by kernel_rfl) (by kernel_rfl) (by kernel_rfl) zq27 rfl rfl (ZPure0.pure (zp_build (xs := [(0, .const (.int .i64 1)), (1, .tmp 49), (2, .tmp 54)]) rfl (el_of rfl) (st_of rfl) rfl zq2)) ?_
    refine zc_one_val (i := 12) (fun _ => by first | assumption | (repeat (first | exact BOwn.nil _ | refine BOwn.cons zq6 ?_))) (by kernel_rfl) rfl zq27 rfl rfl (zv_litR (xs := [.tmp 55]) _ rfl rfl rfl zq37 zq34 zq29 zq15 (by decide) ?_)
    first | (refine zc_one_val (i := 13) (fun _ => by first | assumption | (repeat (first | exact BOwn.nil _ | refine BOwn.cons zq6 ?_))) (by kernel_rfl) rfl zq27 rfl rfl (zv_sappR (i := 0) rfl rfl rfl zq37 zq34 zq33 (by assumption) rfl (by assumption) zq11 (fun o1 c1 f1 sS hS hg => ?_))) | (refine zc_one_val (i := 13) (fun _ => by first | assumption | (repeat (first | exact BOwn.nil _ | refine BOwn.cons zq6 ?_))) (by kernel_rfl) rfl zq27 rfl rfl (zv_sappR (i := 1) rfl rfl rfl zq37 zq34 zq33 (by assumption) rfl (by assumption) zq11 (fun o1 c1 f1 sS hS hg => ?_))) | (refine zc_one_val (i := 13) (fun _ => by first | assumption | (repeat (first | exact BOwn.nil _ | refine BOwn.cons zq6 ?_))) (by kernel_rfl) rfl zq27 rfl rfl (zv_sappR (i := 2) rfl rfl rfl zq37 zq34 zq33 (by assumption) rfl (by assumption) zq11 (fun o1 c1 f1 sS hS hg => ?_))) | (refine zc_one_val (i := 13) (fun _ => by first | assumption | (repeat (first | exact BOwn.nil _ | refine BOwn.cons zq6 ?_))) (by kernel_rfl) rfl zq27 rfl rfl (zv_sappR (i := 3) rfl rfl rfl zq37 zq34 zq33 (by assumption) rfl (by assumption) zq11 (fun o1 c1 f1 sS hS hg => ?_))) | (refine zc_one_val (i := 13) (fun _ => by first | assumption | (repeat (first | exact BOwn.nil _ | refine BOwn.cons zq6 ?_))) (by kernel_rfl) rfl zq27 rfl rfl (zv_sappR (i := 4) rfl rfl rfl zq37 zq34 zq33 (by assumption) rfl (by assumption) zq11 (fun o1 c1 f1 sS hS hg => ?_))) | (refine zc_one_val (i := 13) (fun _ => by first | assumption | (repeat (first | exact BOwn.nil _ | refine BOwn.cons zq6 ?_))) (by kernel_rfl) rfl zq27 rfl rfl (zv_sappR (i := 5) rfl rfl rfl zq37 zq34 zq33 (by assumption) rfl (by assumption) zq11 (fun o1 c1 f1 sS hS hg => ?_)))
    (try simp only [List.set_cons_zero, List.set_cons_succ] at hS)
    refine zc_take0 (i := 14) rfl (by kernel_rfl) (by kernel_rfl) (by kernel_rfl) (by kernel_rfl) zq27 rfl rfl (ZPure0.pure (zp_assign rfl rfl)) ?_
    first | refine zc_end (fun _ => by first | assumption | (repeat (first | exact BOwn.nil _ | refine BOwn.cons zq6 ?_))) (by kernel_rfl) ?_ | refine zc_endB (fun _ => by first | assumption | (repeat (first | exact BOwn.nil _ | refine BOwn.cons zq6 ?_))) (by kernel_rfl) ?_ | refine zc_endBB (fun _ => by first | assumption | (repeat (first | exact BOwn.nil _ | refine BOwn.cons zq6 ?_))) (by kernel_rfl) ?_ | refine zc_done (fun _ => by first | assumption | (repeat (first | exact BOwn.nil _ | refine BOwn.cons zq6 ?_))) (by kernel_rfl) ?_
    (repeat (first | ((with_reducible apply zr_region); (try simp only [List.append_eq, List.cons_append, List.nil_append])) | ((with_reducible apply zo_end)) | ((with_reducible apply zs_move); (exact rfl); (exact rfl)) | ((with_reducible apply zs_assign); (exact rfl); (exact rfl)) | ((with_reducible apply zs_add); (exact rfl); (exact rfl); (exact rfl); (first | (with_reducible assumption) | exact wrap_in64 (by omega) (by omega)))))
    refine ⟨m - 1, _, by omega, ⟨i + 1, _, _, _, _, _, _, by omega, rfl, hS, ?_, ?_⟩, zq23, zq23⟩
    · rw [hqt, delsOf, List.map_append, msgR_append, List.flatten_append]; exact hgA
    · rw [hqt, putsOf, List.map_append, msgR_append, List.flatten_append]; exact hg
  · have hi : i = P.length := by omega
    subst hi
    rw [List.take_length] at hg1 hg2
    have hd1 := dels_length P
    have hd2 := puts_length P
    refine zr_sfz (env1 := _) 0 [2, 5, 6, 7] (msgR (delsOf P)) (by decide) hS rfl hg1 rfl (msgR_three _) (fzd_cons rfl .same (fzd_cons rfl .same (fzd_cons rfl .row (fzd_cons rfl .same fzd_nil)))) fun sS hS => ?_
    refine zr_sfz (env1 := _) 0 [2, 5, 6, 7] (msgR (putsOf P)) (by decide) hS rfl hg2 rfl (msgR_three _) (fzd_cons rfl .same (fzd_cons rfl .same (fzd_cons rfl .same (fzd_cons rfl .row fzd_nil)))) fun sS hS => ?_
    have hS : Zm.Sep st sS [] := hS
    have hb1 := mem_dels hpb
    have hb2 := mem_puts hpb
    have hlf : P.length ≤ 2147483648 := by omega
    have ht1 : (c.l = (L : Int) ∧ 1 ≤ L) ∧ P.length ≤ 1000000 ∧ (delsOf P).length ≤ 1000000 ∧ Srt (keysP P) ∧ (∀ q ∈ P, PB q) ∧ ∀ m ∈ delsOf P, MB m := ⟨⟨hL, by omega⟩, by omega, by omega, hps, hpb, hb1⟩
    have ht2 : (c.l = (L : Int) ∧ 1 ≤ L) ∧ P.length ≤ 1000000 ∧ (delsOf P ++ putsOf P).length ≤ 1000000 ∧ Srt (keysP P) ∧ (∀ q ∈ P, PB q) ∧ ∀ m ∈ delsOf P ++ putsOf P, MB m := ⟨⟨hL, by omega⟩, by omega, by rw [List.length_append]; omega, hps, hpb, fun m hm => (List.mem_append.1 hm).elim (hb1 m) (hb2 m)⟩
    (repeat (first | ((with_reducible apply zr_seq)) | (with_reducible refine zr_exit ?_; simp only [Zthen, Zblock, ↓reduceIte])))
    apply zr_flatUK _ [] [] [⟨9, 10, 12, _, _⟩, ⟨10, 11, 13, _, _⟩] (by kernel_rfl) (sub_cons (k := 2) rfl (sub_cons (k := 5) rfl (sub_cons (k := 6) rfl (sub_cons (k := 7) rfl (sub_nil _)))))
    first | refine zu_cons rfl rfl rfl rfl rfl zq27 (fo_of rfl fun st K hK => ZPure.opK rfl (by decide) (zp_load_ref rfl zq36 rfl rfl) hK) ?_ | refine zu_cons rfl rfl rfl rfl rfl zq27 (fo_of rfl fun st K hK => ZPure.opK rfl (by decide) (zp_load_refAll rfl zq36 rfl rfl) hK) ?_
    refine zu_cons rfl rfl rfl rfl rfl zq27 (fo_of rfl fun st K hK => ZPure.opK rfl (by decide) (ZPure0.pure (zp_move rfl rfl)) hK) ?_
    refine zu_cons rfl rfl rfl rfl rfl zq27 (fo_of rfl fun st K hK => zop_callQ leafv_pf cl_35 rfl rfl (by decide) rfl rfl zq10 zq14 hK) ?_
    refine zu_cons rfl rfl rfl rfl rfl zq27 (fo_of rfl fun st K hK => ZPure.opK rfl (by decide) (ZPure0.pure (zp_move rfl rfl)) hK) ?_
    refine zu_cons rfl rfl rfl rfl rfl zq27 (fo_of rfl fun st K hK => zop_callQ take_pf cl_34 rfl rfl (by decide) rfl rfl zq10 zq14 hK) ?_
    refine zu_cons rfl rfl rfl rfl rfl zq27 (fo_of rfl fun st K hK => ZPure.opK rfl (by decide) (ZPure0.pure (zp_move rfl rfl)) hK) ?_
    refine zu_cons rfl rfl rfl rfl rfl zq27 (fo_of rfl fun st K hK => ZPure.opK rfl (by decide) (ZPure0.pure (zp_extract rfl rfl rfl)) hK) ?_
    refine zu_cons rfl rfl rfl rfl rfl zq27 (fo_of rfl fun st K hK => ZPure.opK rfl (by decide) (ZPure0.pure (zp_extract rfl rfl rfl)) hK) ?_
    refine zu_cons rfl rfl rfl rfl rfl zq27 (fo_of rfl fun st K hK => ZPure.opK rfl (by decide) (ZPure0.pure (zp_extract rfl rfl rfl)) hK) ?_
    refine zu_cons rfl rfl rfl rfl rfl zq27 (fo_of rfl fun st K hK => ZPure.opK rfl (by decide) (ZPure0.pure (zp_extract rfl rfl rfl)) hK) ?_
    refine zu_alloc (j := 0) rfl rfl rfl rfl rfl rfl rfl rfl rfl rfl zq34 zq33 ?_
    refine zu_alloc (j := 1) rfl rfl rfl rfl rfl rfl rfl rfl rfl rfl zq34 zq33 ?_
    refine zu_store (j := 0) rfl rfl rfl rfl rfl rfl rfl rfl rfl rfl rfl zq36 (by simp only [cellsD]; exact rfl) (by first | exact rfl | simp [cellsD, msgD, nodeD, pairD, cfgD]) (by repeat (first | exact one_nil | (apply one_cons; exact rfl))) rfl ?_
    refine zu_store (j := 1) rfl rfl rfl rfl rfl rfl rfl rfl rfl rfl rfl zq36 (by simp only [cellsD]; exact rfl) (by first | exact rfl | simp [cellsD, msgD, nodeD, pairD, cfgD]) (by repeat (first | exact one_nil | (apply one_cons; exact rfl))) rfl ?_
    refine zu_cons rfl rfl rfl rfl rfl zq27 (fo_of rfl fun st K hK => ZPure.opK rfl (by decide) (ZPure0.pure (zp_assign rfl rfl)) hK) ?_
    refine zu_cons rfl rfl rfl rfl rfl zq27 (fo_of rfl fun st K hK => ZPure.opK rfl (by decide) (ZPure0.pure (zp_assign rfl rfl)) hK) ?_
    refine zu_nil ⟨by kernel_rfl, by kernel_rfl, by kernel_rfl, by kernel_rfl, fun cur idq hSn => ?_⟩
    simp only [endB, List.length_cons, List.length_nil, Nat.zero_add, Nat.reduceAdd, Nat.blt_eq, Nat.reduceLT, ↓reduceIte] at hSn
    refine zr_subE (sub_cons (k := 2) rfl (sub_cons (k := 5) rfl (sub_cons (k := 6) rfl (sub_cons (k := 7) rfl (sub_cons (k := 9) (d := .ptr (idq 0) 0) rfl (sub_cons (k := 12) rfl (sub_nil _))))))) ?_
    generalize idq 0 = a9 at hSn ⊢
    generalize idq 1 = a10 at hSn ⊢
    replace hS := hS.trans hSn
    simp only [List.cons_append, List.nil_append] at hS
    have hA : takeA L (applyL P (delsOf P)) = leafN [] := by rw [apply_dels hps]; rfl
    have hB : decide (L < (applyL P (delsOf P)).length) = false := by rw [apply_dels hps]; rfl
    rw [hA] at hS
    rw [hB]
    (repeat (first | ((with_reducible apply zr_seq))))
    apply zr_flatUK _ [] [(3, 72), (5, 74), (7, 76)] [⟨13, 14, 16, _, _⟩, ⟨14, 15, 17, _, _⟩] (by kernel_rfl) (sub_cons (k := 2) rfl (sub_cons (k := 5) rfl (sub_cons (k := 6) rfl (sub_cons (k := 7) rfl (sub_cons (k := 9) rfl (sub_cons (k := 12) rfl (sub_nil _)))))))
    first | refine zu_cons rfl rfl rfl rfl rfl zq27 (fo_of rfl fun st K hK => ZPure.opK rfl (by decide) (zp_load_ref rfl zq36 rfl rfl) hK) ?_ | refine zu_cons rfl rfl rfl rfl rfl zq27 (fo_of rfl fun st K hK => ZPure.opK rfl (by decide) (zp_load_refAll rfl zq36 rfl rfl) hK) ?_
    refine zu_cons rfl rfl rfl rfl rfl zq27 (fo_of rfl fun st K hK => ZPure.opK rfl (by decide) (ZPure0.pure (zp_move rfl rfl)) hK) ?_
    refine zu_cons rfl rfl rfl rfl rfl zq27 (fo_of rfl fun st K hK => zop_callQ leafv_pf cl_35 rfl rfl (by decide) rfl rfl zq10 zq14 hK) ?_
    refine zu_chain0 rfl rfl rfl rfl rfl rfl rfl (fun st K hK => ZVal.op rfl (by decide) (zv_buildSlice (e := 30) (xs := []) rfl rfl zq34 zq37 rfl (by simp) (by decide) fun tq h1 h2 => hK tq h1 h2)) ?_
    refine zu_cons rfl rfl rfl rfl rfl zq27 (fo_of rfl fun st K hK => ZPure.opK rfl (by decide) (ZPure0.pure (zp_move rfl rfl)) hK) ?_
    refine zu_chainS (i := 0) rfl rfl rfl rfl rfl rfl rfl rfl rfl rfl rfl (fun st t0 K hT hK => ZVal.op rfl (by decide) (zv_append (e := 30) rfl zq34 zq37 rfl hT rfl (by simp only [List.map_nil, List.nil_append, List.length_nil, List.length_append, List.length_map, rowR_length, intR_length, msgR_length, pairR_length, lnodesR_length]; omega) fun tq h1 h2 => hK tq h1 h2)) ?_
    refine zu_cons rfl rfl rfl rfl rfl zq27 (fo_of rfl fun st K hK => ZPure.opK rfl (by decide) (ZPure0.pure (zp_move rfl rfl)) hK) ?_
    refine zu_chainS (i := 1) rfl rfl rfl rfl rfl rfl rfl rfl rfl rfl rfl (fun st t0 K hT hK => ZVal.op rfl (by decide) (zv_append (e := 30) rfl zq34 zq37 rfl hT rfl (by simp only [List.map_nil, List.nil_append, List.length_nil, List.length_append, List.length_map, rowR_length, intR_length, msgR_length, pairR_length, lnodesR_length]; omega) fun tq h1 h2 => hK tq h1 h2)) ?_
    refine zu_cons rfl rfl rfl rfl rfl zq27 (fo_of rfl fun st K hK => zop_callQ take_pf cl_34 rfl rfl (by decide) rfl rfl zq10 zq14 hK) ?_
    refine zu_cons rfl rfl rfl rfl rfl zq27 (fo_of rfl fun st K hK => ZPure.opK rfl (by decide) (ZPure0.pure (zp_move rfl rfl)) hK) ?_
    refine zu_cons rfl rfl rfl rfl rfl zq27 (fo_of rfl fun st K hK => ZPure.opK rfl (by decide) (ZPure0.pure (zp_extract rfl rfl rfl)) hK) ?_
    refine zu_cons rfl rfl rfl rfl rfl zq27 (fo_of rfl fun st K hK => ZPure.opK rfl (by decide) (ZPure0.pure (zp_extract rfl rfl rfl)) hK) ?_
    refine zu_cons rfl rfl rfl rfl rfl zq27 (fo_of rfl fun st K hK => ZPure.opK rfl (by decide) (ZPure0.pure (zp_extract rfl rfl rfl)) hK) ?_
    refine zu_cons rfl rfl rfl rfl rfl zq27 (fo_of rfl fun st K hK => ZPure.opK rfl (by decide) (ZPure0.pure (zp_extract rfl rfl rfl)) hK) ?_
    refine zu_alloc (j := 0) rfl rfl rfl rfl rfl rfl rfl rfl rfl rfl zq34 zq33 ?_
    refine zu_alloc (j := 1) rfl rfl rfl rfl rfl rfl rfl rfl rfl rfl zq34 zq33 ?_
    refine zu_store (j := 0) rfl rfl rfl rfl rfl rfl rfl rfl rfl rfl rfl zq36 (by simp only [cellsD]; exact rfl) (by first | exact rfl | simp [cellsD, msgD, nodeD, pairD, cfgD]) (by repeat (first | exact one_nil | (apply one_cons; exact rfl))) rfl ?_
    refine zu_store (j := 1) rfl rfl rfl rfl rfl rfl rfl rfl rfl rfl rfl zq36 (by simp only [cellsD]; exact rfl) (by first | exact rfl | simp [cellsD, msgD, nodeD, pairD, cfgD]) (by repeat (first | exact one_nil | (apply one_cons; exact rfl))) rfl ?_
    refine zu_cons rfl rfl rfl rfl rfl zq27 (fo_of rfl fun st K hK => ZPure.opK rfl (by decide) (ZPure0.pure (zp_assign rfl rfl)) hK) ?_
    refine zu_cons rfl rfl rfl rfl rfl zq27 (fo_of rfl fun st K hK => ZPure.opK rfl (by decide) (ZPure0.pure (zp_assign rfl rfl)) hK) ?_
    refine zu_nil ⟨by kernel_rfl, by kernel_rfl, by kernel_rfl, by kernel_rfl, fun cur idq hSn => ?_⟩
    simp only [endB, List.length_cons, List.length_nil, Nat.zero_add, Nat.reduceAdd, Nat.blt_eq, Nat.reduceLT, ↓reduceIte] at hSn
    refine zr_subE (sub_cons (k := 5) rfl (sub_cons (k := 9) rfl (sub_cons (k := 12) rfl (sub_cons (k := 13) (d := .ptr (idq 0) 0) rfl (sub_cons (k := 16) rfl (sub_nil _)))))) ?_
    generalize idq 0 = a13 at hSn ⊢
    generalize idq 1 = a14 at hSn ⊢
    replace hS := hS.trans hSn
    simp only [List.cons_append, List.nil_append] at hS
    have hA2 : takeA L (applyL P (delsOf P ++ putsOf P)) = leafN P := by rw [apply_back hps]; unfold takeA; rw [if_pos (by omega)]
    have hB2 : decide (L < (applyL P (delsOf P ++ putsOf P)).length) = false := by rw [apply_back hps]; exact decide_eq_false (by omega)
    rw [hA2] at hS
    rw [hB2]
    replace hS := hS.erase 1
    replace hS := hS.erase 2
    have hS : Zm.Sep st cur [(some a13, nodeD (leafN P)), (some a9, nodeD (leafN []))] := hS
    refine zr_freezeK (id := a13) [5, 9, 12, 13, 16] (hS.at_ (i := 0) rfl) zq12 rfl ?_
    replace hS := hS.drop (i := 0) rfl
    refine zr_freezeK (id := a9) [5, 9, 12, 13, 16] (hS.at_ (i := 0) rfl) zq12 rfl ?_
    replace hS := hS.drop (i := 0) rfl
    (repeat (first | ((with_reducible apply zr_seq))))
    have hNB : NB (leafN P) := ⟨by simp only [leafN, keysP_length]; omega, by simp only [leafN, List.length_map]; omega, by simp [leafN], by simp [leafN]⟩
    have hDD : decide (leafN P = leafN P) = true := by simp
    refine zr_flatK _ (by kernel_rfl) (sub_cons (k := 5) rfl (sub_cons (k := 9) rfl (sub_cons (k := 12) rfl (sub_cons (k := 13) rfl (sub_cons (k := 16) rfl (sub_nil _)))))) ?_
    refine zf_cons rfl rfl rfl zq27 (fun st K hK => ZPure.opK rfl (by decide) (ZPure0.pure (zp_move rfl rfl)) hK) ?_
    refine zf_cons rfl rfl rfl zq27 (fun st K hK => ZPure.opK rfl (by decide) (ZPure0.pure (zp_not rfl rfl)) hK) ?_
    refine zf_cons rfl rfl rfl zq27 (fun st K hK => ZPure.opK rfl (by decide) (ZPure0.pure (zp_move rfl rfl)) hK) ?_
    refine zf_cons rfl rfl rfl zq27 (fun st K hK => ZPure.opK rfl (by decide) (ZPure0.pure (zp_move rfl rfl)) hK) ?_
    refine zf_cons rfl rfl rfl zq27 (fun st K hK => ZPure.opK rfl (by decide) (ZPure0.pure (zp_not rfl rfl)) hK) ?_
    refine zf_cons rfl rfl rfl zq27 (fun st K hK => ZPure.opK rfl (by decide) zq17 hK) ?_
    refine zf_cons rfl rfl rfl zq27 (fun st K hK => ZPure.opK rfl (by decide) (ZPure0.pure (zp_move rfl rfl)) hK) ?_
    refine zf_cons rfl rfl rfl zq27 (fun st K hK => ZPure.opK rfl (by decide) zq18 hK) ?_
    first | refine zf_cons rfl rfl rfl zq27 (fun st K hK => ZPure.opK rfl (by decide) (zp_load_ref rfl zq36 rfl rfl) hK) ?_ | refine zf_cons rfl rfl rfl zq27 (fun st K hK => ZPure.opK rfl (by decide) (zp_load_refAll rfl zq36 rfl rfl) hK) ?_
    refine zf_cons rfl rfl rfl zq27 (fun st K hK => ZPure.opK rfl (by decide) zq17 hK) ?_
    refine zf_cons rfl rfl rfl zq27 (fun st K hK => ZPure.opK rfl (by decide) (ZPure0.pure (zp_move rfl rfl)) hK) ?_
    refine zf_cons rfl rfl rfl zq27 (fun st K hK => ZPure.opK rfl (by decide) zq18 hK) ?_
    first | refine zf_cons rfl rfl rfl zq27 (fun st K hK => ZPure.opK rfl (by decide) (zp_load_ref rfl zq36 rfl rfl) hK) ?_ | refine zf_cons rfl rfl rfl zq27 (fun st K hK => ZPure.opK rfl (by decide) (zp_load_refAll rfl zq36 rfl rfl) hK) ?_
    refine zf_cons rfl rfl rfl zq27 (fun st K hK => ZPure.opK rfl (by decide) (by first | exact (zp_lenB rfl zq37 rfl).pure | exact (zp_len rfl zq37 rfl).pure | exact (zp_len_nil rfl zq37 rfl).pure | exact (zp_len_orow rfl rfl zq37 (by exact GRow.nil0 (by assumption))).pure) hK) ?_
    refine zf_cons rfl rfl rfl zq27 (fun st K hK => ZPure.opK rfl (by decide) (ZPure0.pure (zp_eql rfl rfl rfl)) hK) ?_
    refine zf_cons rfl rfl rfl zq27 (fun st K hK => ZPure.opK rfl (by decide) zq17 hK) ?_
    refine zf_cons rfl rfl rfl zq27 (fun st K hK => ZPure.opK rfl (by decide) (ZPure0.pure (zp_move rfl rfl)) hK) ?_
    first | refine zf_cons rfl rfl rfl zq27 (fun st K hK => ZPure.opK rfl (by decide) (zp_load_ref rfl zq36 rfl rfl) hK) ?_ | refine zf_cons rfl rfl rfl zq27 (fun st K hK => ZPure.opK rfl (by decide) (zp_load_refAll rfl zq36 rfl rfl) hK) ?_
    refine zf_cons rfl rfl rfl zq27 (fun st K hK => ZPure.opK rfl (by decide) (ZPure0.pure (zp_move rfl rfl)) hK) ?_
    refine zf_cons rfl rfl rfl zq27 (fun st K hK => zop_callQ leafv_pf cl_35 rfl rfl (by decide) rfl rfl zq10 zq14 hK) ?_
    refine zf_cons rfl rfl rfl zq27 (fun st K hK => zop_callQ sameN_pf cl_27 rfl rfl (by decide) rfl rfl zq10 zq14 hK) ?_
    refine zf_cons rfl rfl rfl zq27 (fun st K hK => ZPure.opK rfl (by decide) zq17 hK) ?_
    refine zf_cons rfl rfl rfl zq27 (fun st K hK => ZPure.opK rfl (by decide) (ZPure0.pure (zp_move rfl rfl)) hK) ?_
    refine zf_cons rfl rfl rfl zq27 (fun st K hK => zop_callQ awake21_pf cl_33 rfl rfl (by decide) rfl rfl zq10 zq14 hK) ?_
    refine zf_cons rfl rfl rfl zq27 (fun st K hK => ZPure.opK rfl (by decide) zq17 hK) ?_
    refine zf_cons rfl rfl rfl zq27 (fun st K hK => ZPure.opK rfl (by decide) (ZPure0.pure (zp_assign rfl rfl)) hK) ?_
    refine zf_nil ⟨by kernel_rfl, by kernel_rfl, ?_⟩
    refine zr_subE (sub_cons (k := 4) rfl (sub_nil _)) ?_
    (repeat (first | ((with_reducible apply zr_retZ); (exact rfl); (repeat (first | exact resD_nil _ _ _ | ((with_reducible apply resD_tmp); (exact rfl)) | ((with_reducible apply resD_cell_agg); (exact rfl); (exact sh_of rfl); (first | assumption | exact St.setH_self _ _ _ | exact Sep.at_ (i := 0) (by assumption) rfl | exact Sep.at_ (i := 1) (by assumption) rfl | exact Sep.at_ (i := 2) (by assumption) rfl | exact Sep.at_ (i := 3) (by assumption) rfl | exact Sep.at_ (i := 4) (by assumption) rfl | exact Sep.at_ (i := 5) (by assumption) rfl | exact Sep.at_ (i := 6) (by assumption) rfl); (exact rfl)) | ((with_reducible apply resD_cell); (exact rfl); (exact sh_of rfl); (first | assumption | exact St.setH_self _ _ _ | exact Sep.at_ (i := 0) (by assumption) rfl | exact Sep.at_ (i := 1) (by assumption) rfl | exact Sep.at_ (i := 2) (by assumption) rfl | exact Sep.at_ (i := 3) (by assumption) rfl | exact Sep.at_ (i := 4) (by assumption) rfl | exact Sep.at_ (i := 5) (by assumption) rfl | exact Sep.at_ (i := 6) (by assumption) rfl); (exact rfl)))); (simp only [resOf]))))
    exact KE.mk _ hS.ext hK
end Go.Proofs.ZtLe
