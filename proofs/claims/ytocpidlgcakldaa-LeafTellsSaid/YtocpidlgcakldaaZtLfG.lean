/- A part of the proof of LeafTells: walks of the functions that it reaches. No condition. -/
import Derived.Test.YtocpidlgcakldaaZtLfF
import Derived.Test.YtocpidlgcakldaaZtMeO
import Derived.Test.YtocpidlgcakldaaZmAuto
namespace Go.Proofs.ZtLe
open Go.RowKit Go.Proofs Go.Proofs.Zm
set_option linter.unusedVariables false
set_option linter.unusedSimpArgs false
set_option maxHeartbeats 20000000
set_option maxRecDepth 100000
attribute [local irreducible] ZWp ZOps ZPure ZPure0 ZVal ZOp SoundF

/-! ### LeafTells -/
theorem takeA_t {L : Nat} {a : List PairV} (h : L < a.length) : takeA L a = leafN (a.take ((a.length + 1) / 2)) := by unfold takeA; rw [if_neg (by omega)]
theorem takeB_t {L : Nat} {a : List PairV} (h : L < a.length) : takeB L a = leafN (a.drop ((a.length + 1) / 2)) := by unfold takeB; rw [if_neg (by omega)]
theorem takeP_t {L : Nat} {a : List PairV} (h : L < a.length) : takeP L a = (a.getD ((a.length + 1) / 2) ([], [])).1 := by unfold takeP; rw [if_neg (by omega)]
theorem takeA_f {L : Nat} {a : List PairV} (h : ¬ L < a.length) : takeA L a = leafN a := by unfold takeA; rw [if_pos (by omega)]
theorem takeB_f {L : Nat} {a : List PairV} (h : ¬ L < a.length) : takeB L a = noNode := by unfold takeB; rw [if_pos (by omega)]
theorem takeP_f {L : Nat} {a : List PairV} (h : ¬ L < a.length) : takeP L a = [] := by unfold takeP; rw [if_pos (by omega)]
theorem leavesG_get {h : Nat} {p : List PairV} {N i : Nat} (hi : i < N) : (lnodesR (leavesL h p N)).getD i [] = nodeD (leafN (chunkL h p i)) := by
  rw [List.getD_eq_getElem?_getD]
  unfold lnodesR leavesL chunksL
  rw [List.getElem?_map, List.getElem?_map, List.getElem?_map, List.getElem?_range hi]
  rfl
theorem leafNB {p : List PairV} (h : p.length ≤ 1000000) : NB (leafN p) := ⟨by simp only [leafN, keysP_length]; omega, by simp only [leafN, List.length_map]; omega, by simp [leafN], by simp [leafN]⟩
def tells21 : ZSpec := fun args st K => ∃ (c : CfgV) (l m : List Int) (raw : List MsgV) (q : List Int) (tl tm tr tq : Nat), args = [.agg (cfgD c), .row (intR l) 1 tl, .row (intR m) 1 tm, .row (msgR raw) 3 tr, .row (intR q) 1 tq] ∧ l.length ≤ 140737488351232 ∧ m.length ≤ 140737488351232 ∧ raw.length ≤ 140737488351232 ∧ (∀ m ∈ raw, m.2.1.length ≤ 140737488351232 ∧ m.2.2.length ≤ 140737488351232) ∧ q.length ≤ 140737488351232 ∧ K (.v (.bool true)) st
theorem tells21_snd : SoundF Try.prog 9 tells21 := by
  refine sound_ofA Try.func9 rfl Try.results9 ?_
  rintro w0 args st K ⟨c, l, m, raw, q, tl, tm, tr, tq, rfl, hl, hm, hraw, hrb, hq, hK⟩
  rw [Try.ntmps9]; refine ⟨by simp, ?_⟩
  refine zr_as 1 (.row (intR l) 1 0) rfl zq3 ?_
  refine zr_as 2 (.row (intR m) 1 0) rfl zq3 ?_
  refine zr_as 3 (.row (msgR raw) 3 0) rfl zq3 ?_
  refine zr_as 4 (.row (intR q) 1 0) rfl zq3 ?_
  have hS := Sep.nil st
  have hsp : raw.length ≤ 140737488355328 ∧ ∀ m ∈ raw, m.2.1.length ≤ 140737488355328 ∧ m.2.2.length ≤ 140737488355328 := ⟨by omega, fun q hq => by have := hrb q hq; omega⟩
  have hshort := short_pf (tl := 0) hsp
  (repeat (first | ((with_reducible apply zr_seq)) | ((with_reducible apply zr_region); (try simp only [List.append_eq, List.cons_append, List.nil_append])) | ((with_reducible apply zo_end)) | ((with_reducible apply zs_move); (exact rfl); (exact rfl)) | ((with_reducible apply zs_assign); (exact rfl); (exact rfl)) | ((with_reducible apply zs_not); (exact rfl); (exact rfl)) | ((with_reducible apply (zs_callQ short_pf cl_36)); (exact rfl); (exact rfl); ((repeat (first | exact DLes.nil | (apply DLes.cons; first | exact DLe.refl _ | exact DLe.nilB | exact DLe.nilR | exact DLe.nilI | exact dle_lf1 | exact dle_lm2 | exact dle_lp4 | exact dle_lp0 | exact dle_app2)))); (first | exact trivial | assumption | ((repeat' (with_reducible refine And.intro ?_ ?_)) <;> first | assumption | omega | exact trivial | (simp; done) | (simp; omega)))) | ((with_reducible apply (zs_sbox (t := 5))); (exact rfl); (exact rfl); (focus (simp [cellsD, oneD, Value.oneCell', msgD, nodeD, pairD, cfgD]; done)); (assumption); (intro a5 sS hS))))
  (first | refine zr_cond rfl (fun h0 => ?_) (fun h0 => ?_) | refine zs_split rfl rfl (fun h0 => ?_) (fun h0 => ?_)) <;> have h0' := h0 <;> (try simp only [decide_eq_true_eq, decide_eq_false_iff_not, Bool.and_eq_true, Bool.or_eq_true, Bool.and_eq_false_iff, Bool.or_eq_false_iff, Bool.not_eq_true', Bool.not_eq_false', Bool.not_eq_true, Bool.not_eq_false, Int.not_le, Int.not_lt, Classical.not_not, Decidable.not_not, ne_eq, beq_iff_eq, bne_iff_ne] at h0')
  · (repeat (first | ((with_reducible apply zr_seq)) | ((with_reducible apply zr_region); (try simp only [List.append_eq, List.cons_append, List.nil_append])) | ((with_reducible apply zo_end)) | ((with_reducible apply zs_assign); (exact rfl); (exact rfl)) | ((with_reducible apply (zs_callQ awake21_pf cl_33)); (exact rfl); (exact rfl); ((repeat (first | exact DLes.nil | (apply DLes.cons; first | exact DLe.refl _ | exact DLe.nilB | exact DLe.nilR | exact DLe.nilI | exact dle_lf1 | exact dle_lm2 | exact dle_lp4 | exact dle_lp0 | exact dle_app2)))); (first | exact trivial | assumption | ((repeat' (with_reducible refine And.intro ?_ ?_)) <;> first | assumption | omega | exact trivial | (simp; done) | (simp; omega)))) | ((with_reducible apply zr_retZ); (exact rfl); (repeat (first | exact resD_nil _ _ _ | ((with_reducible apply resD_tmp); (exact rfl)) | ((with_reducible apply resD_cell_agg); (exact rfl); (exact sh_of rfl); (first | assumption | exact St.setH_self _ _ _ | exact Sep.at_ (i := 0) zq42 rfl | exact Sep.at_ (i := 1) zq42 rfl | exact Sep.at_ (i := 2) zq42 rfl | exact Sep.at_ (i := 3) zq42 rfl | exact Sep.at_ (i := 4) zq42 rfl | exact Sep.at_ (i := 5) zq42 rfl | exact Sep.at_ (i := 6) zq42 rfl); (exact rfl)) | ((with_reducible apply resD_cell); (exact rfl); (exact sh_of rfl); (first | assumption | exact St.setH_self _ _ _ | exact Sep.at_ (i := 0) zq42 rfl | exact Sep.at_ (i := 1) zq42 rfl | exact Sep.at_ (i := 2) zq42 rfl | exact Sep.at_ (i := 3) zq42 rfl | exact Sep.at_ (i := 4) zq42 rfl | exact Sep.at_ (i := 5) zq42 rfl | exact Sep.at_ (i := 6) zq42 rfl); (exact rfl)))); (simp only [resOf]))))
    exact KE.mk _ hS.ext hK
  have hsh : shortL raw = true := by cases h : shortL raw with | true => rfl | false => rw [h] at h0; cases h0
  have hr40 : raw.length ≤ 40 := by unfold shortL at hsh; simp only [Bool.and_eq_true, decide_eq_true_eq] at hsh; exact hsh.1
  have hrm : ∀ m ∈ raw, MB m := by
    unfold shortL at hsh
    simp only [Bool.and_eq_true, decide_eq_true_eq] at hsh
    rw [List.take_of_length_le (by omega)] at hsh
    exact fun q hq => by
      have := short_mem hsh.2 (by omega) q hq
      exact ⟨by omega, by omega⟩
  clear h0 h0' hsp hshort hrb
  (repeat (first | ((with_reducible apply zr_seq)) | ((with_reducible apply zr_region); (try simp only [List.append_eq, List.cons_append, List.nil_append])) | ((with_reducible apply zr_skip')) | ((with_reducible apply zs_load_ptrA); (exact rfl); (exact rfl); (exact sh_of rfl); (first | assumption | exact St.setH_self _ _ _ | exact Sep.at_ (i := 0) zq42 rfl | exact Sep.at_ (i := 1) zq42 rfl | exact Sep.at_ (i := 2) zq42 rfl | exact Sep.at_ (i := 3) zq42 rfl | exact Sep.at_ (i := 4) zq42 rfl | exact Sep.at_ (i := 5) zq42 rfl | exact Sep.at_ (i := 6) zq42 rfl); (first | exact Nat.le_of_ble_eq_true rfl | exact (by decide) | (focus (simp [cellsD]; done))); (first | (simp only [cells_orow, cD_int, cD_bool, cD_float, cD_nil, cD_ptr0, cD_str, cD_row, cD_mrow, cD_ptr, cD_ref, cD_fn, cD_agg, List.take_zero, List.take_succ_cons, List.take_nil, List.drop_succ_cons, List.drop_zero, List.drop_nil, List.nil_append, List.cons_append, List.append_nil, Nat.zero_add, Nat.reduceAdd]; exact rfl) | exact rfl))))
  (try ((with_reducible apply zs_yes); exact rfl; exact rfl; (first | assumption | exact rfl))); refine zo_callU (small_ps (c := c) trivial) Try.func21 zq43 rfl rfl rfl rfl (by decide) rfl rfl zq5 ?_; refine ⟨rfl, fun d hd => ?_⟩; obtain ⟨c, rfl, hc⟩ := hd
  have hk1 := hc.hkey.1
  have hk2 := hc.hkey.2
  have hl1 := hc.hl.1
  have hl2 := hc.hl.2
  have hcc := hc.hc
  have hv1 := hc.hval.1
  have hv2 := hc.hval.2
  obtain ⟨L, hL⟩ : ∃ L : Nat, c.l = (L : Int) := ⟨c.l.toNat, by omega⟩
  obtain ⟨h, hh⟩ : ∃ h : Nat, (c.l + c.c + 1) / 2 = (h : Int) := ⟨((c.l + c.c + 1) / 2).toNat, by omega⟩
  have hh1 : 1 ≤ h := by omega
  (repeat (first | ((with_reducible apply (zs_sstore (i := 0))); (exact rfl); (exact rfl); (exact sh_of rfl); (assumption); (exact rfl); (first | exact rfl | (simp [cells_orow])); ((try rw [cells_orow]); (repeat (first | exact one_nil | (apply one_cons; (first | exact rfl | exact one_orow _ _ _))))); (first | exact Nat.le_of_ble_eq_true rfl | omega | (focus (simp [cellsD, msgD, nodeD, pairD, cfgD]; done))); (first | (simp only [cells_orow, cD_int, cD_bool, cD_float, cD_nil, cD_ptr0, cD_str, cD_row, cD_mrow, cD_ptr, cD_ref, cD_fn, cD_agg, List.take_zero, List.take_succ_cons, List.take_nil, List.drop_succ_cons, List.drop_zero, List.drop_nil, List.nil_append, List.cons_append, List.append_nil, Nat.zero_add, Nat.reduceAdd]; exact rfl) | exact rfl); (intro sS hS); (try simp only [List.set_cons_zero, List.set_cons_succ] at hS)) | ((with_reducible apply zr_seq)) | ((with_reducible apply zr_region); (try simp only [List.append_eq, List.cons_append, List.nil_append])) | ((with_reducible apply zo_end)) | ((with_reducible apply zs_move); (exact rfl); (exact rfl)) | ((with_reducible apply zs_load_ptrA); (exact rfl); (exact rfl); (exact sh_of rfl); (first | assumption | exact St.setH_self _ _ _ | exact Sep.at_ (i := 0) zq42 rfl | exact Sep.at_ (i := 1) zq42 rfl | exact Sep.at_ (i := 2) zq42 rfl | exact Sep.at_ (i := 3) zq42 rfl | exact Sep.at_ (i := 4) zq42 rfl | exact Sep.at_ (i := 5) zq42 rfl | exact Sep.at_ (i := 6) zq42 rfl); (first | exact Nat.le_of_ble_eq_true rfl | exact (by decide) | (focus (simp [cellsD]; done))); (first | (simp only [cells_orow, cD_int, cD_bool, cD_float, cD_nil, cD_ptr0, cD_str, cD_row, cD_mrow, cD_ptr, cD_ref, cD_fn, cD_agg, List.take_zero, List.take_succ_cons, List.take_nil, List.drop_succ_cons, List.drop_zero, List.drop_nil, List.nil_append, List.cons_append, List.append_nil, Nat.zero_add, Nat.reduceAdd]; exact rfl) | exact rfl))))
  have hS : Zm.Sep st sS [(some a5, cfgD c)] := hS
  skip
  (try ((with_reducible apply zs_yes); exact rfl; exact rfl; (first | assumption | exact rfl))); refine zo_callU (pairs_ps (c := c) (l := l) (tl := 0) ⟨by omega, by omega, by omega⟩) Try.func29 zq43 rfl rfl rfl rfl (by decide) rfl rfl zq5 ?_
  refine ⟨rfl, fun d hd => ?_⟩
  obtain ⟨p, rfl, hp⟩ := hd
  have hr0 : (pairR p).length = p.length := pairR_length _
  obtain ⟨k, hk⟩ : ∃ k : Nat, min ((pairR p).length : Int) c.l = (k : Int) := Int.eq_ofNat_of_zero_le (by omega)
  (repeat (first | ((with_reducible apply zr_seq)) | ((with_reducible apply zr_region); (try simp only [List.append_eq, List.cons_append, List.nil_append])) | ((with_reducible apply zo_end)) | ((with_reducible apply zs_move); (exact rfl); (exact rfl)) | ((with_reducible apply zs_assign); (exact rfl); (exact rfl)) | ((with_reducible apply zs_len); (exact rfl); (exact rfl); (exact un_sl rfl)) | ((with_reducible apply zr_block)) | ((with_reducible apply zs_field_ptr); (exact rfl); (exact rfl); (exact fld_of rfl)) | ((with_reducible apply zs_load_ptr); (exact rfl); (exact rfl); (exact sh_of rfl); (first | assumption | exact St.setH_self _ _ _ | exact Sep.at_ (i := 0) zq42 rfl | exact Sep.at_ (i := 1) zq42 rfl | exact Sep.at_ (i := 2) zq42 rfl | exact Sep.at_ (i := 3) zq42 rfl | exact Sep.at_ (i := 4) zq42 rfl | exact Sep.at_ (i := 5) zq42 rfl | exact Sep.at_ (i := 6) zq42 rfl); (first | exact rfl | assumption)) | ((with_reducible apply zs_cuthi); (exact rfl); (exact rfl); (exact un_sl rfl); (exact ii_of rfl); (exact rfl); (first | omega | (simp only [List.length_map, List.length_take, List.length_drop, List.length_append, List.length_cons, List.length_nil, List.length_replicate, rowR_length, intR_length, msgR_length, pairR_length, lnodesR_length, chR_length]; omega) | decide); (first | omega | (simp only [List.length_map, List.length_take, List.length_drop, List.length_append, List.length_cons, List.length_nil, List.length_replicate, rowR_length, intR_length, msgR_length, pairR_length, lnodesR_length, chR_length]; omega) | decide); (first | (with_reducible exact Int.toNat_natCast _) | (simp only [Int.reduceToNat]; exact rfl) | exact rfl)) | ((with_reducible apply zs_min); (exact rfl); (exact rfl); (exact rfl); (first | (with_reducible assumption) | exact rfl))))
  rw [pairR_take]
  have hps : Srt (keysP (p.take k)) := by unfold keysP; rw [List.map_take]; exact Srt.take hp.srt k
  have hpb : ∀ q ∈ p.take k, PB q := fun q hq => hp.lpb q (List.mem_of_mem_take hq)
  have hpl : (p.take k).length ≤ 40 := by rw [List.length_take]; have := hp.len; omega
  generalize p.take k = P at *
  have hr1 : (pairR P).length = P.length := pairR_length _
  skip
  refine zr_freezeK (id := a5) [2, 4, 5, 11, 12, 13] (hS.at_ (i := 0) rfl) zq14 rfl ?_
  replace hS := hS.drop (i := 0) rfl
  refine zr_as 5 (.ref (cfgD c)) rfl zq3 ?_
  have hS : Zm.Sep st (sS.setH a5 none) [] := hS
  refine zr_loopK [2, 4, 5, 11] (fun m e s => ∃ (i : Nat) (x : List MsgV), m + i = 2 ∧ e = [(12, .row (msgR x) 3 0), (13, .v (.int .i64 (i : Nat)))] ∧ Zm.Sep st s [] ∧ x.length ≤ 60 ∧ ∀ m ∈ x, MB m) 2 _ zq23 ⟨0, raw, by omega, rfl, hS, by omega, hrm⟩ zq27 ?_
  rintro mm e s ⟨i, x, hmi, rfl, hS, hxl, hxb⟩
  (repeat (first | ((with_reducible apply zr_seq)) | ((with_reducible apply zr_region); (try simp only [List.append_eq, List.cons_append, List.nil_append])) | ((with_reducible apply zo_end)) | ((with_reducible apply zs_move); (exact rfl); (exact rfl)) | ((with_reducible apply zs_lss); (exact rfl); (exact rfl); (exact rfl))))
  (first | refine zr_cond rfl (fun h1 => ?_) (fun h1 => ?_) | refine zs_split rfl rfl (fun h1 => ?_) (fun h1 => ?_)) <;> have h1' := h1 <;> (try simp only [decide_eq_true_eq, decide_eq_false_iff_not, Bool.and_eq_true, Bool.or_eq_true, Bool.and_eq_false_iff, Bool.or_eq_false_iff, Bool.not_eq_true', Bool.not_eq_false', Bool.not_eq_true, Bool.not_eq_false, Int.not_le, Int.not_lt, Classical.not_not, Decidable.not_not, ne_eq, beq_iff_eq, bne_iff_ne] at h1')
  · have htk : (c.l = (L : Int) ∧ 1 ≤ L) ∧ P.length ≤ 1000000 ∧ x.length ≤ 1000000 ∧ Srt (keysP P) ∧ (∀ q ∈ P, PB q) ∧ ∀ m ∈ x, MB m := ⟨⟨hL, by omega⟩, by omega, by omega, hps, hpb, hxb⟩
    have hap : P.length ≤ 100000 ∧ x.length ≤ 100000 ∧ Srt (keysP P) ∧ (∀ q ∈ P, PB q) ∧ ∀ m ∈ x, MB m := ⟨by omega, by omega, hps, hpb, hxb⟩
    have hlf : P.length ≤ 2147483648 := by omega
    (repeat (first | ((with_reducible apply zr_seq)) | ((with_reducible apply zr_block)) | ((with_reducible apply zr_skip'))))
    apply zr_flatUK _ [] [] [⟨14, 10, 12, _, _⟩, ⟨15, 11, 13, _, _⟩] zq43 (sub_cons (k := 2) rfl (sub_cons (k := 4) rfl (sub_cons (k := 5) rfl (sub_cons (k := 11) rfl (sub_cons (k := 12) rfl (sub_cons (k := 13) rfl (sub_nil _)))))))
    first | refine zu_cons rfl rfl rfl rfl rfl zq31 (fo_of rfl fun st K hK => ZPure.opK rfl (by decide) (zp_load_ref rfl zq40 rfl rfl) hK) ?_ | refine zu_cons rfl rfl rfl rfl rfl zq31 (fo_of rfl fun st K hK => ZPure.opK rfl (by decide) (zp_load_refAll rfl zq40 rfl rfl) hK) ?_
    refine zu_cons rfl rfl rfl rfl rfl zq31 (fo_of rfl fun st K hK => ZPure.opK rfl (by decide) (ZPure0.pure (zp_move rfl rfl)) hK) ?_
    refine zu_cons rfl rfl rfl rfl rfl zq31 (fo_of rfl fun st K hK => zop_callQ leafv_pf cl_35 rfl rfl (by decide) rfl rfl zq13 zq16 hK) ?_
    refine zu_cons rfl rfl rfl rfl rfl zq31 (fo_of rfl fun st K hK => ZPure.opK rfl (by decide) (ZPure0.pure (zp_move rfl rfl)) hK) ?_
    refine zu_cons rfl rfl rfl rfl rfl zq31 (fo_of rfl fun st K hK => zop_callQ take_pf cl_34 rfl rfl (by decide) rfl rfl zq13 zq16 hK) ?_
    refine zu_cons rfl rfl rfl rfl rfl zq31 (fo_of rfl fun st K hK => ZPure.opK rfl (by decide) (ZPure0.pure (zp_move rfl rfl)) hK) ?_
    refine zu_cons rfl rfl rfl rfl rfl zq31 (fo_of rfl fun st K hK => ZPure.opK rfl (by decide) (ZPure0.pure (zp_extract rfl rfl rfl)) hK) ?_
    refine zu_cons rfl rfl rfl rfl rfl zq31 (fo_of rfl fun st K hK => ZPure.opK rfl (by decide) (ZPure0.pure (zp_extract rfl rfl rfl)) hK) ?_
    refine zu_cons rfl rfl rfl rfl rfl zq31 (fo_of rfl fun st K hK => ZPure.opK rfl (by decide) (ZPure0.pure (zp_extract rfl rfl rfl)) hK) ?_
    refine zu_cons rfl rfl rfl rfl rfl zq31 (fo_of rfl fun st K hK => ZPure.opK rfl (by decide) (ZPure0.pure (zp_extract rfl rfl rfl)) hK) ?_
    refine zu_alloc (j := 0) rfl rfl rfl rfl rfl rfl rfl rfl rfl rfl zq38 zq37 ?_
    refine zu_alloc (j := 1) rfl rfl rfl rfl rfl rfl rfl rfl rfl rfl zq38 zq37 ?_
    refine zu_store (j := 0) rfl rfl rfl rfl rfl rfl rfl rfl rfl rfl rfl zq40 (by simp only [cellsD]; exact rfl) (by first | exact rfl | simp [cellsD, msgD, nodeD, pairD, cfgD]) (by repeat (first | exact one_nil | (apply one_cons; exact rfl))) rfl ?_
    refine zu_store (j := 1) rfl rfl rfl rfl rfl rfl rfl rfl rfl rfl rfl zq40 (by simp only [cellsD]; exact rfl) (by first | exact rfl | simp [cellsD, msgD, nodeD, pairD, cfgD]) (by repeat (first | exact one_nil | (apply one_cons; exact rfl))) rfl ?_
    refine zu_cons rfl rfl rfl rfl rfl zq31 (fo_of rfl fun st K hK => ZPure.opK rfl (by decide) (ZPure0.pure (zp_assign rfl rfl)) hK) ?_
    refine zu_cons rfl rfl rfl rfl rfl zq31 (fo_of rfl fun st K hK => ZPure.opK rfl (by decide) (ZPure0.pure (zp_assign rfl rfl)) hK) ?_
    refine zu_nil ⟨by kernel_rfl, by kernel_rfl, by kernel_rfl, by kernel_rfl, fun cur idq hSn => ?_⟩
    simp only [endB, List.length_cons, List.length_nil, Nat.zero_add, Nat.reduceAdd, Nat.blt_eq, Nat.reduceLT, ↓reduceIte] at hSn
    refine zr_subE (sub_cons (k := 2) rfl (sub_cons (k := 4) rfl (sub_cons (k := 5) rfl (sub_cons (k := 11) rfl (sub_cons (k := 12) rfl (sub_cons (k := 13) rfl (sub_cons (k := 14) (d := .ptr (idq 0) 0) rfl (sub_cons (k := 15) (d := .ptr (idq 1) 0) rfl (sub_cons (k := 16) rfl (sub_cons (k := 17) rfl (sub_nil _))))))))))) ?_
    generalize idq 0 = a14 at hSn ⊢
    generalize idq 1 = a15 at hSn ⊢
    replace hS := hS.trans hSn
    simp only [List.cons_append, List.nil_append] at hS
    (repeat (first | ((with_reducible apply zr_seq)) | ((with_reducible apply zr_region); (try simp only [List.append_eq, List.cons_append, List.nil_append])) | ((with_reducible apply zo_end)) | ((with_reducible apply zs_move); (exact rfl); (exact rfl)) | ((with_reducible apply zs_assign); (exact rfl); (exact rfl)) | ((with_reducible apply zs_gtr); (exact rfl); (exact rfl); (exact rfl)) | ((with_reducible apply zs_len); (exact rfl); (exact rfl); (exact un_sl rfl)) | ((with_reducible apply zs_field_ref); (exact rfl); (exact rfl); (exact fld_of rfl)) | ((with_reducible apply zs_load_ref); (exact rfl); (exact rfl); (exact sh_of rfl); (exact rfl)) | ((with_reducible apply (zs_callQ rapply_pf cl_37)); (exact rfl); (exact rfl); ((repeat (first | exact DLes.nil | (apply DLes.cons; first | exact DLe.refl _ | exact DLe.nilB | exact DLe.nilR | exact DLe.nilI | exact dle_lf1 | exact dle_lm2 | exact dle_lp4 | exact dle_lp0 | exact dle_app2)))); (first | exact trivial | assumption | ((repeat' (with_reducible refine And.intro ?_ ?_)) <;> first | assumption | omega | exact trivial | (simp; done) | (simp; omega))))))
    have hal := lapply_len P x
    have hab := lapply_pb hpb hxb
    obtain ⟨A, hA⟩ : ∃ A, A = applyL P x := ⟨_, rfl⟩
    rw [← hA] at hal hab hS
    rw [← hA]
    have hrA : (pairR A).length = A.length := pairR_length _
    have hDD : ∀ n : NodeV, decide (n = n) = true := fun n => by simp
    by_cases ht : L < A.length
    · rw [takeA_t ht, takeB_t ht] at hS
      rw [takeP_t ht, decide_eq_true ht]
      obtain ⟨k, hk⟩ : ∃ k, k = (A.length + 1) / 2 := ⟨_, rfl⟩
      rw [← hk] at hS ⊢
      obtain ⟨z, hzk, _, _, hzg⟩ := eltP (l := A) (i := k) (by omega)
      have hzd : A.getD k ([], []) = z := by rw [List.getD_eq_getElem?_getD, hzk]; rfl
      rw [hzd]
      have hq2 : IntKind.i64.wrap ((((pairR A).length : Nat) + 1 : Int).tdiv 2) = (k : Int) := by
        rw [hrA, Int.tdiv_eq_ediv_of_nonneg (by omega), wrap_in64 (by omega) (by omega)]; omega
      have g1 : decide (c.l < ((pairR A).length : Nat)) = true := decide_eq_true (by omega)
      refine zr_freezeK (id := a14) [2, 4, 5, 11, 13, 14, 15, 16, 17, 18, 19, 64] (hS.at_ (i := 0) rfl) zq14 rfl ?_
      replace hS := hS.drop (i := 0) rfl
      refine zr_freezeK (id := a15) [2, 4, 5, 11, 13, 14, 15, 16, 17, 18, 19, 64] (hS.at_ (i := 0) rfl) zq14 rfl ?_
      replace hS := hS.drop (i := 0) rfl
      have hn1 : NB (leafN (A.take k)) := leafNB (by rw [List.length_take]; omega)
      have hn2 : NB (leafN (A.drop k)) := leafNB (by rw [List.length_drop]; omega)
      have hv1 : (A.take k).length ≤ 2147483648 := by rw [List.length_take]; omega
      have hv2 : (A.drop k).length ≤ 2147483648 := by rw [List.length_drop]; omega
      (repeat (first | ((with_reducible apply zr_seq)) | ((with_reducible apply zr_region); (try simp only [List.append_eq, List.cons_append, List.nil_append])) | ((with_reducible apply zo_end)) | ((with_reducible apply zs_move); (exact rfl); (exact rfl)) | ((with_reducible apply zs_assign); (exact rfl); (exact rfl)) | ((with_reducible apply zs_add); (exact rfl); (exact rfl); (exact rfl); (first | (with_reducible assumption) | exact wrap_in64 (by omega) (by omega))) | ((with_reducible apply zs_len); (exact rfl); (exact rfl); (exact un_sl rfl)) | ((with_reducible apply zr_cond_t); (exact rfl); (first | assumption | exact rfl)) | ((with_reducible apply zs_quo); (exact rfl); (exact rfl); (exact rfl); (decide); ((with_reducible assumption)))))
      have gN : (true != decide (c.l < ((pairR A).length : Nat))) = false := by rw [g1]; rfl
      refine zc_begin (m := 51) ([]) [] zq43 rfl ?_
      refine zc_take0 (i := 0) rfl zq43 zq43 zq43 zq43 zq31 rfl rfl (ZPure0.pure (zp_move rfl rfl)) ?_
      refine zc_take0 (i := 1) rfl zq43 zq43 zq43 zq43 zq31 rfl rfl (ZPure0.pure (zp_move rfl rfl)) ?_
      refine zc_take0 (i := 2) rfl zq43 zq43 zq43 zq43 zq31 rfl rfl zq9 ?_
      refine zc_take0 (i := 3) rfl zq43 zq43 zq43 zq43 zq31 rfl rfl zq21 ?_
      first | (refine zc_take0 (i := 4) rfl zq43 zq43 zq43 zq43 zq31 rfl rfl (zp_load_ref rfl zq40 rfl rfl) ?_) | (refine zc_take0 (i := 4) rfl zq43 zq43 zq43 zq43 zq31 rfl rfl (zp_load_refAll rfl zq40 rfl rfl) ?_) | (refine zc_take (i := 4) rfl zq43 zq43 zq43 zq43 zq43 zq43 zq31 rfl rfl (zpb_load rfl zq40 rfl (.head _) rfl zq35) ?_) | (refine zc_take (i := 4) rfl zq43 zq43 zq43 zq43 zq43 zq43 zq31 rfl rfl (zpb_load rfl zq40 rfl (.tail _ (.head _)) rfl zq35) ?_) | (refine zc_take (i := 4) rfl zq43 zq43 zq43 zq43 zq43 zq43 zq31 rfl rfl (zpb_load rfl zq40 rfl (.tail _ (.tail _ (.head _))) rfl zq35) ?_) | (refine zc_take (i := 4) rfl zq43 zq43 zq43 zq43 zq43 zq43 zq31 rfl rfl (zpb_load_agg rfl zq40 rfl (.head _) rfl rfl zq34) ?_) | (refine zc_take (i := 4) rfl zq43 zq43 zq43 zq43 zq43 zq43 zq31 rfl rfl (zpb_load_agg rfl zq40 rfl (.tail _ (.head _)) rfl rfl zq34) ?_) | (refine zc_take (i := 4) rfl zq43 zq43 zq43 zq43 zq43 zq43 zq31 rfl rfl (zpb_load_agg rfl zq40 rfl (.tail _ (.tail _ (.head _))) rfl rfl zq34) ?_)
      refine zc_take0 (i := 5) rfl zq43 zq43 zq43 zq43 zq31 rfl rfl (ZPure0.pure (zp_gtr rfl rfl rfl)) ?_
      refine zc_take0 (i := 6) rfl zq43 zq43 zq43 zq43 zq31 rfl rfl (ZPure0.pure (zp_beq rfl rfl rfl Try.underlying4 (.inr ⟨rfl, rfl⟩))) ?_
      refine zc_take0 (i := 7) rfl zq43 zq43 zq43 zq43 zq31 rfl rfl (ZPure0.pure (zp_move rfl rfl)) ?_
      skip
      rw [gN]
      first | (first | (refine zc_take0 (i := 8) rfl zq43 zq43 zq43 zq43 zq31 rfl rfl (zp_load_ref rfl zq40 rfl rfl) ?_) | (refine zc_take0 (i := 8) rfl zq43 zq43 zq43 zq43 zq31 rfl rfl (zp_load_refAll rfl zq40 rfl rfl) ?_) | (refine zc_take (i := 8) rfl zq43 zq43 zq43 zq43 zq43 zq43 zq31 rfl rfl (zpb_load rfl zq40 rfl (.head _) rfl zq35) ?_) | (refine zc_take (i := 8) rfl zq43 zq43 zq43 zq43 zq43 zq43 zq31 rfl rfl (zpb_load rfl zq40 rfl (.tail _ (.head _)) rfl zq35) ?_) | (refine zc_take (i := 8) rfl zq43 zq43 zq43 zq43 zq43 zq43 zq31 rfl rfl (zpb_load rfl zq40 rfl (.tail _ (.tail _ (.head _))) rfl zq35) ?_) | (refine zc_take (i := 8) rfl zq43 zq43 zq43 zq43 zq43 zq43 zq31 rfl rfl (zpb_load_agg rfl zq40 rfl (.head _) rfl rfl zq34) ?_) | (refine zc_take (i := 8) rfl zq43 zq43 zq43 zq43 zq43 zq43 zq31 rfl rfl (zpb_load_agg rfl zq40 rfl (.tail _ (.head _)) rfl rfl zq34) ?_) | (refine zc_take (i := 8) rfl zq43 zq43 zq43 zq43 zq43 zq43 zq31 rfl rfl (zpb_load_agg rfl zq40 rfl (.tail _ (.tail _ (.head _))) rfl rfl zq34) ?_)) | (refine zc_notU (i := 8) rfl zq43 zq43 zq43 zq43 zq17 rfl ?_)
      first | (refine zc_take0 (i := 9) rfl zq43 zq43 zq43 zq43 zq31 rfl rfl (ZPure0.pure (zp_move rfl rfl)) ?_) | (refine zc_notU (i := 9) rfl zq43 zq43 zq43 zq43 zq17 rfl ?_)
      first | (refine zc_take0 (i := 10) rfl zq43 zq43 zq43 zq43 zq31 rfl rfl (ZPure0.pure (zp_move rfl rfl)) ?_) | (refine zc_notU (i := 10) rfl zq43 zq43 zq43 zq43 zq17 rfl ?_)
      first | (first | (refine zc_take0 (i := 11) rfl zq43 zq43 zq43 zq43 zq31 rfl rfl (ZPure0.pure (zp_cBhi rfl zq41 zq39 rfl rfl zq10 zq10 zq28 )) ?_) | (refine zc_take0 (i := 11) rfl zq43 zq43 zq43 zq43 zq31 rfl rfl (ZPure0.pure (zp_cRhi rfl zq41 zq39 rfl rfl zq10 zq10 zq28 )) ?_) | (refine zc_take0 (i := 11) rfl zq43 zq43 zq43 zq43 zq31 rfl rfl (ZPure0.pure (zp_cMhi rfl zq41 zq39 rfl rfl zq10 zq10 zq28 )) ?_)) | (refine zc_notU (i := 11) rfl zq43 zq43 zq43 zq43 zq17 rfl ?_)
      skip
      rw [pairR_take]
      refine zc_one (i := 12) (fun _ => by first | assumption | (repeat (first | exact BOwn.nil _ | refine BOwn.cons zq7 ?_))) zq43 rfl zq31 (zop_callQ leafv_pf cl_35 rfl rfl (by decide) rfl rfl zq13 ?_ ?_)
      · exact hv1
      skip
      refine zc_one (i := 13) (fun _ => by first | assumption | (repeat (first | exact BOwn.nil _ | refine BOwn.cons zq7 ?_))) zq43 rfl zq31 (zop_callQ sameN_pf cl_27 rfl rfl (by decide) rfl rfl zq13 ?_ ?_)
      · exact hn1
      rw [hDD]
      first | (refine zc_take0 (i := 14) rfl zq43 zq43 zq43 zq43 zq31 rfl rfl (ZPure0.pure (zp_not rfl rfl)) ?_) | (refine zc_notU (i := 14) rfl zq43 zq43 zq43 zq43 zq17 rfl ?_)
      refine zc_take0 (i := 15) rfl zq43 zq43 zq43 zq43 zq31 rfl rfl zq20 ?_
      refine zc_take0 (i := 16) rfl zq43 zq43 zq43 zq43 zq31 rfl rfl (ZPure0.pure (zp_move rfl rfl)) ?_
      first | (refine zc_take0 (i := 17) rfl zq43 zq43 zq43 zq43 zq31 rfl rfl (ZPure0.pure (zp_move rfl rfl)) ?_) | (refine zc_notU (i := 17) rfl zq43 zq43 zq43 zq43 zq17 rfl ?_)
      first | (refine zc_take0 (i := 18) rfl zq43 zq43 zq43 zq43 zq31 rfl rfl (ZPure0.pure (zp_move rfl rfl)) ?_) | (refine zc_notU (i := 18) rfl zq43 zq43 zq43 zq43 zq17 rfl ?_)
      first | (first | (refine zc_take0 (i := 19) rfl zq43 zq43 zq43 zq43 zq31 rfl rfl (zp_load_ref rfl zq40 rfl rfl) ?_) | (refine zc_take0 (i := 19) rfl zq43 zq43 zq43 zq43 zq31 rfl rfl (zp_load_refAll rfl zq40 rfl rfl) ?_) | (refine zc_take (i := 19) rfl zq43 zq43 zq43 zq43 zq43 zq43 zq31 rfl rfl (zpb_load rfl zq40 rfl (.head _) rfl zq35) ?_) | (refine zc_take (i := 19) rfl zq43 zq43 zq43 zq43 zq43 zq43 zq31 rfl rfl (zpb_load rfl zq40 rfl (.tail _ (.head _)) rfl zq35) ?_) | (refine zc_take (i := 19) rfl zq43 zq43 zq43 zq43 zq43 zq43 zq31 rfl rfl (zpb_load rfl zq40 rfl (.tail _ (.tail _ (.head _))) rfl zq35) ?_) | (refine zc_take (i := 19) rfl zq43 zq43 zq43 zq43 zq43 zq43 zq31 rfl rfl (zpb_load_agg rfl zq40 rfl (.head _) rfl rfl zq34) ?_) | (refine zc_take (i := 19) rfl zq43 zq43 zq43 zq43 zq43 zq43 zq31 rfl rfl (zpb_load_agg rfl zq40 rfl (.tail _ (.head _)) rfl rfl zq34) ?_) | (refine zc_take (i := 19) rfl zq43 zq43 zq43 zq43 zq43 zq43 zq31 rfl rfl (zpb_load_agg rfl zq40 rfl (.tail _ (.tail _ (.head _))) rfl rfl zq34) ?_)) | (refine zc_notU (i := 19) rfl zq43 zq43 zq43 zq43 zq17 rfl ?_)
      first | (refine zc_take0 (i := 20) rfl zq43 zq43 zq43 zq43 zq31 rfl rfl (ZPure0.pure (zp_move rfl rfl)) ?_) | (refine zc_notU (i := 20) rfl zq43 zq43 zq43 zq43 zq17 rfl ?_)
      first | (refine zc_take0 (i := 21) rfl zq43 zq43 zq43 zq43 zq31 rfl rfl (ZPure0.pure (zp_move rfl rfl)) ?_) | (refine zc_notU (i := 21) rfl zq43 zq43 zq43 zq43 zq17 rfl ?_)
      first | (first | (refine zc_take0 (i := 22) rfl zq43 zq43 zq43 zq43 zq31 rfl rfl (ZPure0.pure (zp_cBlo rfl zq41 zq39 rfl rfl zq10 zq10 zq28 )) ?_) | (refine zc_take0 (i := 22) rfl zq43 zq43 zq43 zq43 zq31 rfl rfl (ZPure0.pure (zp_cRlo rfl zq41 zq39 rfl rfl zq10 zq10 zq28 )) ?_) | (refine zc_take0 (i := 22) rfl zq43 zq43 zq43 zq43 zq31 rfl rfl (ZPure0.pure (zp_cMlo rfl zq41 zq39 rfl rfl zq10 zq10 zq10 (by first | (left; omega) | (right; omega) | (left; decide) | (right; simp only [List.length_map, rowR_length, intR_length, msgR_length, pairR_length, lnodesR_length, chR_length]; omega)) zq28)) ?_) | (refine zc_take0 (i := 22) rfl zq43 zq43 zq43 zq43 zq31 rfl rfl (ZPure0.pure (zp_cME rfl zq41 zq39 rfl rfl zq10 zq10 )) ?_)) | (refine zc_notU (i := 22) rfl zq43 zq43 zq43 zq43 zq17 rfl ?_)
      skip
      rw [pairR_drop]
      refine zc_one (i := 23) (fun _ => by first | assumption | (repeat (first | exact BOwn.nil _ | refine BOwn.cons zq7 ?_))) zq43 rfl zq31 (zop_callQ leafv_pf cl_35 rfl rfl (by decide) rfl rfl zq13 ?_ ?_)
      · exact hv2
      skip
      refine zc_one (i := 24) (fun _ => by first | assumption | (repeat (first | exact BOwn.nil _ | refine BOwn.cons zq7 ?_))) zq43 rfl zq31 (zop_callQ sameN_pf cl_27 rfl rfl (by decide) rfl rfl zq13 ?_ ?_)
      · exact hn2
      rw [hDD]
      first | (refine zc_take0 (i := 25) rfl zq43 zq43 zq43 zq43 zq31 rfl rfl (ZPure0.pure (zp_not rfl rfl)) ?_) | (refine zc_notU (i := 25) rfl zq43 zq43 zq43 zq43 zq17 rfl ?_)
      first | (refine zc_take0 (i := 26) rfl zq43 zq43 zq43 zq43 zq31 rfl rfl (ZPure0.pure (zp_move rfl rfl)) ?_) | (refine zc_notU (i := 26) rfl zq43 zq43 zq43 zq43 zq17 rfl ?_)
      first | (refine zc_take0 (i := 27) rfl zq43 zq43 zq43 zq43 zq31 rfl rfl (ZPure0.pure (zp_move rfl rfl)) ?_) | (refine zc_notU (i := 27) rfl zq43 zq43 zq43 zq43 zq17 rfl ?_)
      first | (refine zc_take0 (i := 28) rfl zq43 zq43 zq43 zq43 zq31 rfl rfl (ZPure0.pure (zp_move rfl rfl)) ?_) | (refine zc_notU (i := 28) rfl zq43 zq43 zq43 zq43 zq17 rfl ?_)
      first | (refine zc_take0 (i := 29) rfl zq43 zq43 zq43 zq43 zq31 rfl rfl (ZPure0.pure (zp_move rfl rfl)) ?_) | (refine zc_notU (i := 29) rfl zq43 zq43 zq43 zq43 zq17 rfl ?_)
      first | (refine zc_take0 (i := 30) rfl zq43 zq43 zq43 zq43 zq31 rfl rfl zq0 ?_) | (refine zc_notU (i := 30) rfl zq43 zq43 zq43 zq43 zq17 rfl ?_)
      first | (refine zc_take0 (i := 31) rfl zq43 zq43 zq43 zq43 zq31 rfl rfl zq21 ?_) | (refine zc_notU (i := 31) rfl zq43 zq43 zq43 zq43 zq17 rfl ?_)
      first | (first | (refine zc_take0 (i := 32) rfl zq43 zq43 zq43 zq43 zq31 rfl rfl (zp_load_ref rfl zq40 rfl rfl) ?_) | (refine zc_take0 (i := 32) rfl zq43 zq43 zq43 zq43 zq31 rfl rfl (zp_load_refAll rfl zq40 rfl rfl) ?_) | (refine zc_take (i := 32) rfl zq43 zq43 zq43 zq43 zq43 zq43 zq31 rfl rfl (zpb_load rfl zq40 rfl (.head _) rfl zq35) ?_) | (refine zc_take (i := 32) rfl zq43 zq43 zq43 zq43 zq43 zq43 zq31 rfl rfl (zpb_load rfl zq40 rfl (.tail _ (.head _)) rfl zq35) ?_) | (refine zc_take (i := 32) rfl zq43 zq43 zq43 zq43 zq43 zq43 zq31 rfl rfl (zpb_load rfl zq40 rfl (.tail _ (.tail _ (.head _))) rfl zq35) ?_) | (refine zc_take (i := 32) rfl zq43 zq43 zq43 zq43 zq43 zq43 zq31 rfl rfl (zpb_load_agg rfl zq40 rfl (.head _) rfl rfl zq34) ?_) | (refine zc_take (i := 32) rfl zq43 zq43 zq43 zq43 zq43 zq43 zq31 rfl rfl (zpb_load_agg rfl zq40 rfl (.tail _ (.head _)) rfl rfl zq34) ?_) | (refine zc_take (i := 32) rfl zq43 zq43 zq43 zq43 zq43 zq43 zq31 rfl rfl (zpb_load_agg rfl zq40 rfl (.tail _ (.tail _ (.head _))) rfl rfl zq34) ?_)) | (refine zc_notU (i := 32) rfl zq43 zq43 zq43 zq43 zq17 rfl ?_)
      skip
      refine zc_one (i := 33) (fun _ => by first | assumption | (repeat (first | exact BOwn.nil _ | refine BOwn.cons zq7 ?_))) zq43 rfl zq31 (zop_callQ same_pf cl_19 rfl rfl (by decide) rfl rfl zq13 ?_ ?_)
      · trivial
      rw [show (z.1 == z.1) = true by simp]
      first | (refine zc_take0 (i := 34) rfl zq43 zq43 zq43 zq43 zq31 rfl rfl (ZPure0.pure (zp_not rfl rfl)) ?_) | (refine zc_notU (i := 34) rfl zq43 zq43 zq43 zq43 zq17 rfl ?_)
      first | (refine zc_take0 (i := 35) rfl zq43 zq43 zq43 zq43 zq31 rfl rfl zq20 ?_) | (refine zc_notU (i := 35) rfl zq43 zq43 zq43 zq43 zq17 rfl ?_)
      first | (refine zc_take0 (i := 36) rfl zq43 zq43 zq43 zq43 zq31 rfl rfl zq20 ?_) | (refine zc_notU (i := 36) rfl zq43 zq43 zq43 zq43 zq17 rfl ?_)
      refine zc_take0 (i := 37) rfl zq43 zq43 zq43 zq43 zq31 rfl rfl zq20 ?_
      refine zc_take0 (i := 38) rfl zq43 zq43 zq43 zq43 zq31 rfl rfl (ZPure0.pure (zp_move rfl rfl)) ?_
      first | (refine zc_take0 (i := 39) rfl zq43 zq43 zq43 zq43 zq31 rfl rfl (ZPure0.pure (zp_move rfl rfl)) ?_) | (refine zc_notU (i := 39) rfl zq43 zq43 zq43 zq43 zq17 rfl ?_)
      first | (refine zc_take0 (i := 40) rfl zq43 zq43 zq43 zq43 zq31 rfl rfl (ZPure0.pure (zp_not rfl rfl)) ?_) | (refine zc_notU (i := 40) rfl zq43 zq43 zq43 zq43 zq17 rfl ?_)
      first | (refine zc_take0 (i := 41) rfl zq43 zq43 zq43 zq43 zq31 rfl rfl (ZPure0.pure (zp_move rfl rfl)) ?_) | (refine zc_notU (i := 41) rfl zq43 zq43 zq43 zq43 zq17 rfl ?_)
      first | (refine zc_take0 (i := 42) rfl zq43 zq43 zq43 zq43 zq31 rfl rfl (ZPure0.pure (zp_move rfl rfl)) ?_) | (refine zc_notU (i := 42) rfl zq43 zq43 zq43 zq43 zq17 rfl ?_)
      first | (refine zc_take0 (i := 43) rfl zq43 zq43 zq43 zq43 zq31 rfl rfl zq9 ?_) | (refine zc_notU (i := 43) rfl zq43 zq43 zq43 zq43 zq17 rfl ?_)
      first | (refine zc_take0 (i := 44) rfl zq43 zq43 zq43 zq43 zq31 rfl rfl (ZPure0.pure (zp_gtr rfl rfl rfl)) ?_) | (refine zc_notU (i := 44) rfl zq43 zq43 zq43 zq43 zq17 rfl ?_)
      first | (refine zc_take0 (i := 45) rfl zq43 zq43 zq43 zq43 zq31 rfl rfl (ZPure0.pure (zp_move rfl rfl)) ?_) | (refine zc_notU (i := 45) rfl zq43 zq43 zq43 zq43 zq17 rfl ?_)
      first | (refine zc_take0 (i := 46) rfl zq43 zq43 zq43 zq43 zq31 rfl rfl zq21 ?_) | (refine zc_notU (i := 46) rfl zq43 zq43 zq43 zq43 zq17 rfl ?_)
      first | (first | (refine zc_take0 (i := 47) rfl zq43 zq43 zq43 zq43 zq31 rfl rfl (zp_load_ref rfl zq40 rfl rfl) ?_) | (refine zc_take0 (i := 47) rfl zq43 zq43 zq43 zq43 zq31 rfl rfl (zp_load_refAll rfl zq40 rfl rfl) ?_) | (refine zc_take (i := 47) rfl zq43 zq43 zq43 zq43 zq43 zq43 zq31 rfl rfl (zpb_load rfl zq40 rfl (.head _) rfl zq35) ?_) | (refine zc_take (i := 47) rfl zq43 zq43 zq43 zq43 zq43 zq43 zq31 rfl rfl (zpb_load rfl zq40 rfl (.tail _ (.head _)) rfl zq35) ?_) | (refine zc_take (i := 47) rfl zq43 zq43 zq43 zq43 zq43 zq43 zq31 rfl rfl (zpb_load rfl zq40 rfl (.tail _ (.tail _ (.head _))) rfl zq35) ?_) | (refine zc_take (i := 47) rfl zq43 zq43 zq43 zq43 zq43 zq43 zq31 rfl rfl (zpb_load_agg rfl zq40 rfl (.head _) rfl rfl zq34) ?_) | (refine zc_take (i := 47) rfl zq43 zq43 zq43 zq43 zq43 zq43 zq31 rfl rfl (zpb_load_agg rfl zq40 rfl (.tail _ (.head _)) rfl rfl zq34) ?_) | (refine zc_take (i := 47) rfl zq43 zq43 zq43 zq43 zq43 zq43 zq31 rfl rfl (zpb_load_agg rfl zq40 rfl (.tail _ (.tail _ (.head _))) rfl rfl zq34) ?_)) | (refine zc_notU (i := 47) rfl zq43 zq43 zq43 zq43 zq17 rfl ?_)
      first | (refine zc_take0 (i := 48) rfl zq43 zq43 zq43 zq43 zq31 rfl rfl zq20 ?_) | (refine zc_notU (i := 48) rfl zq43 zq43 zq43 zq43 zq17 rfl ?_)
      first | (refine zc_take0 (i := 49) rfl zq43 zq43 zq43 zq43 zq31 rfl rfl zq20 ?_) | (refine zc_notU (i := 49) rfl zq43 zq43 zq43 zq43 zq17 rfl ?_)
      refine zc_take0 (i := 50) rfl zq43 zq43 zq43 zq43 zq31 rfl rfl zq20 ?_
      first | refine zc_end (fun _ => by first | assumption | (repeat (first | exact BOwn.nil _ | refine BOwn.cons zq7 ?_))) zq43 ?_ | refine zc_endB (fun _ => by first | assumption | (repeat (first | exact BOwn.nil _ | refine BOwn.cons zq7 ?_))) zq43 ?_ | refine zc_endBB (fun _ => by first | assumption | (repeat (first | exact BOwn.nil _ | refine BOwn.cons zq7 ?_))) zq43 ?_ | refine zc_done (fun _ => by first | assumption | (repeat (first | exact BOwn.nil _ | refine BOwn.cons zq7 ?_))) zq43 ?_
      (repeat (first | ((with_reducible apply zr_region); (try simp only [List.append_eq, List.cons_append, List.nil_append])) | ((with_reducible apply zs_move); (exact rfl); (exact rfl)) | ((with_reducible apply zr_cond_f); (exact rfl); (first | assumption | exact rfl)) | ((with_reducible apply zr_skip')) | ((with_reducible apply zs_load_refAll); (exact rfl); (exact rfl); (exact sh_of rfl); (exact rfl))))
      (try ((with_reducible apply zs_yes); exact rfl; exact rfl; (first | assumption | exact rfl))); refine zo_callU (msgs_ps (c := c) (l := m) (tl := 0) ⟨by omega, by omega, by omega, by omega, by omega⟩) Try.func38 zq43 rfl rfl rfl rfl (by decide) rfl rfl zq5 ?_
      refine ⟨rfl, fun d hd => ?_⟩
      obtain ⟨y, rfl, hy⟩ := hd
      have hyl := hy.len
      have hyb := hy.lmb
      (repeat (first | ((with_reducible apply zr_region); (try simp only [List.append_eq, List.cons_append, List.nil_append])) | ((with_reducible apply zo_end)) | ((with_reducible apply zo_endB)) | ((with_reducible apply zs_move); (exact rfl); (exact rfl)) | ((with_reducible apply zs_assign); (exact rfl); (exact rfl)) | ((with_reducible apply zs_add); (exact rfl); (exact rfl); (exact rfl); (first | (with_reducible assumption) | exact wrap_in64 (by omega) (by omega)))))
      exact ⟨mm - 1, _, by omega, ⟨i + 1, y, by omega, rfl, hS, by omega, hyb⟩, zq27, zq27⟩
    · rw [takeA_f ht, takeB_f ht] at hS
      rw [takeP_f ht, decide_eq_false ht]
      have g1 : decide (c.l < ((pairR A).length : Nat)) = false := decide_eq_false (by omega)
      refine zr_freezeK (id := a14) [2, 4, 5, 11, 13, 14, 15, 16, 17, 18, 19, 64] (hS.at_ (i := 0) rfl) zq14 rfl ?_
      replace hS := hS.drop (i := 0) rfl
      refine zr_freezeK (id := a15) [2, 4, 5, 11, 13, 14, 15, 16, 17, 18, 19, 64] (hS.at_ (i := 0) rfl) zq14 rfl ?_
      replace hS := hS.drop (i := 0) rfl
      have hn1 : NB (leafN A) := leafNB (by omega)
      have hv1 : A.length ≤ 2147483648 := by omega
      have gN : (false != decide (c.l < ((pairR A).length : Nat))) = false := by rw [g1]; rfl
      (repeat (first | ((with_reducible apply zr_seq)) | ((with_reducible apply zr_cond_f); (exact rfl); (first | assumption | exact rfl)) | ((with_reducible apply zr_skip'))))
      refine zc_begin (m := 51) ([]) [] zq43 rfl ?_
      refine zc_take0 (i := 0) rfl zq43 zq43 zq43 zq43 zq31 rfl rfl (ZPure0.pure (zp_move rfl rfl)) ?_
      refine zc_take0 (i := 1) rfl zq43 zq43 zq43 zq43 zq31 rfl rfl (ZPure0.pure (zp_move rfl rfl)) ?_
      refine zc_take0 (i := 2) rfl zq43 zq43 zq43 zq43 zq31 rfl rfl zq9 ?_
      refine zc_take0 (i := 3) rfl zq43 zq43 zq43 zq43 zq31 rfl rfl zq21 ?_
      first | (refine zc_take0 (i := 4) rfl zq43 zq43 zq43 zq43 zq31 rfl rfl (zp_load_ref rfl zq40 rfl rfl) ?_) | (refine zc_take0 (i := 4) rfl zq43 zq43 zq43 zq43 zq31 rfl rfl (zp_load_refAll rfl zq40 rfl rfl) ?_) | (refine zc_take (i := 4) rfl zq43 zq43 zq43 zq43 zq43 zq43 zq31 rfl rfl (zpb_load rfl zq40 rfl (.head _) rfl zq35) ?_) | (refine zc_take (i := 4) rfl zq43 zq43 zq43 zq43 zq43 zq43 zq31 rfl rfl (zpb_load rfl zq40 rfl (.tail _ (.head _)) rfl zq35) ?_) | (refine zc_take (i := 4) rfl zq43 zq43 zq43 zq43 zq43 zq43 zq31 rfl rfl (zpb_load rfl zq40 rfl (.tail _ (.tail _ (.head _))) rfl zq35) ?_) | (refine zc_take (i := 4) rfl zq43 zq43 zq43 zq43 zq43 zq43 zq31 rfl rfl (zpb_load_agg rfl zq40 rfl (.head _) rfl rfl zq34) ?_) | (refine zc_take (i := 4) rfl zq43 zq43 zq43 zq43 zq43 zq43 zq31 rfl rfl (zpb_load_agg rfl zq40 rfl (.tail _ (.head _)) rfl rfl zq34) ?_) | (refine zc_take (i := 4) rfl zq43 zq43 zq43 zq43 zq43 zq43 zq31 rfl rfl (zpb_load_agg rfl zq40 rfl (.tail _ (.tail _ (.head _))) rfl rfl zq34) ?_)
      refine zc_take0 (i := 5) rfl zq43 zq43 zq43 zq43 zq31 rfl rfl (ZPure0.pure (zp_gtr rfl rfl rfl)) ?_
      refine zc_take0 (i := 6) rfl zq43 zq43 zq43 zq43 zq31 rfl rfl (ZPure0.pure (zp_beq rfl rfl rfl Try.underlying4 (.inr ⟨rfl, rfl⟩))) ?_
      refine zc_take0 (i := 7) rfl zq43 zq43 zq43 zq43 zq31 rfl rfl (ZPure0.pure (zp_move rfl rfl)) ?_
      skip
      rw [gN]
      first | (first | (refine zc_take0 (i := 8) rfl zq43 zq43 zq43 zq43 zq31 rfl rfl (zp_load_ref rfl zq40 rfl rfl) ?_) | (refine zc_take0 (i := 8) rfl zq43 zq43 zq43 zq43 zq31 rfl rfl (zp_load_refAll rfl zq40 rfl rfl) ?_) | (refine zc_take (i := 8) rfl zq43 zq43 zq43 zq43 zq43 zq43 zq31 rfl rfl (zpb_load rfl zq40 rfl (.head _) rfl zq35) ?_) | (refine zc_take (i := 8) rfl zq43 zq43 zq43 zq43 zq43 zq43 zq31 rfl rfl (zpb_load rfl zq40 rfl (.tail _ (.head _)) rfl zq35) ?_) | (refine zc_take (i := 8) rfl zq43 zq43 zq43 zq43 zq43 zq43 zq31 rfl rfl (zpb_load rfl zq40 rfl (.tail _ (.tail _ (.head _))) rfl zq35) ?_) | (refine zc_take (i := 8) rfl zq43 zq43 zq43 zq43 zq43 zq43 zq31 rfl rfl (zpb_load_agg rfl zq40 rfl (.head _) rfl rfl zq34) ?_) | (refine zc_take (i := 8) rfl zq43 zq43 zq43 zq43 zq43 zq43 zq31 rfl rfl (zpb_load_agg rfl zq40 rfl (.tail _ (.head _)) rfl rfl zq34) ?_) | (refine zc_take (i := 8) rfl zq43 zq43 zq43 zq43 zq43 zq43 zq31 rfl rfl (zpb_load_agg rfl zq40 rfl (.tail _ (.tail _ (.head _))) rfl rfl zq34) ?_)) | (refine zc_notU (i := 8) rfl zq43 zq43 zq43 zq43 zq17 rfl ?_)
      first | (refine zc_take0 (i := 9) rfl zq43 zq43 zq43 zq43 zq31 rfl rfl (ZPure0.pure (zp_move rfl rfl)) ?_) | (refine zc_notU (i := 9) rfl zq43 zq43 zq43 zq43 zq17 rfl ?_)
      first | (refine zc_take0 (i := 10) rfl zq43 zq43 zq43 zq43 zq31 rfl rfl (ZPure0.pure (zp_move rfl rfl)) ?_) | (refine zc_notU (i := 10) rfl zq43 zq43 zq43 zq43 zq17 rfl ?_)
      first | (first | (refine zc_take0 (i := 11) rfl zq43 zq43 zq43 zq43 zq31 rfl rfl (ZPure0.pure (zp_cBhi rfl zq41 zq39 rfl rfl zq10 zq10 zq28 )) ?_) | (refine zc_take0 (i := 11) rfl zq43 zq43 zq43 zq43 zq31 rfl rfl (ZPure0.pure (zp_cRhi rfl zq41 zq39 rfl rfl zq10 zq10 zq28 )) ?_) | (refine zc_take0 (i := 11) rfl zq43 zq43 zq43 zq43 zq31 rfl rfl (ZPure0.pure (zp_cMhi rfl zq41 zq39 rfl rfl zq10 zq10 zq28 )) ?_)) | (refine zc_notU (i := 11) rfl zq43 zq43 zq43 zq43 zq17 rfl ?_)
      skip
      simp only [Int.toNat_natCast, List.take_length]
      refine zc_one (i := 12) (fun _ => by first | assumption | (repeat (first | exact BOwn.nil _ | refine BOwn.cons zq7 ?_))) zq43 rfl zq31 (zop_callQ leafv_pf cl_35 rfl rfl (by decide) rfl rfl zq13 ?_ ?_)
      · exact hv1
      skip
      refine zc_one (i := 13) (fun _ => by first | assumption | (repeat (first | exact BOwn.nil _ | refine BOwn.cons zq7 ?_))) zq43 rfl zq31 (zop_callQ sameN_pf cl_27 rfl rfl (by decide) rfl rfl zq13 ?_ ?_)
      · exact hn1
      rw [hDD]
      first | (refine zc_take0 (i := 14) rfl zq43 zq43 zq43 zq43 zq31 rfl rfl (ZPure0.pure (zp_not rfl rfl)) ?_) | (refine zc_notU (i := 14) rfl zq43 zq43 zq43 zq43 zq17 rfl ?_)
      refine zc_take0 (i := 15) rfl zq43 zq43 zq43 zq43 zq31 rfl rfl zq20 ?_
      refine zc_take0 (i := 16) rfl zq43 zq43 zq43 zq43 zq31 rfl rfl (ZPure0.pure (zp_move rfl rfl)) ?_
      first | (refine zc_take0 (i := 17) rfl zq43 zq43 zq43 zq43 zq31 rfl rfl (ZPure0.pure (zp_move rfl rfl)) ?_) | (refine zc_notU (i := 17) rfl zq43 zq43 zq43 zq43 zq17 rfl ?_)
      first | (refine zc_take0 (i := 18) rfl zq43 zq43 zq43 zq43 zq31 rfl rfl (ZPure0.pure (zp_move rfl rfl)) ?_) | (refine zc_notU (i := 18) rfl zq43 zq43 zq43 zq43 zq17 rfl ?_)
      first | (first | (refine zc_take0 (i := 19) rfl zq43 zq43 zq43 zq43 zq31 rfl rfl (zp_load_ref rfl zq40 rfl rfl) ?_) | (refine zc_take0 (i := 19) rfl zq43 zq43 zq43 zq43 zq31 rfl rfl (zp_load_refAll rfl zq40 rfl rfl) ?_) | (refine zc_take (i := 19) rfl zq43 zq43 zq43 zq43 zq43 zq43 zq31 rfl rfl (zpb_load rfl zq40 rfl (.head _) rfl zq35) ?_) | (refine zc_take (i := 19) rfl zq43 zq43 zq43 zq43 zq43 zq43 zq31 rfl rfl (zpb_load rfl zq40 rfl (.tail _ (.head _)) rfl zq35) ?_) | (refine zc_take (i := 19) rfl zq43 zq43 zq43 zq43 zq43 zq43 zq31 rfl rfl (zpb_load rfl zq40 rfl (.tail _ (.tail _ (.head _))) rfl zq35) ?_) | (refine zc_take (i := 19) rfl zq43 zq43 zq43 zq43 zq43 zq43 zq31 rfl rfl (zpb_load_agg rfl zq40 rfl (.head _) rfl rfl zq34) ?_) | (refine zc_take (i := 19) rfl zq43 zq43 zq43 zq43 zq43 zq43 zq31 rfl rfl (zpb_load_agg rfl zq40 rfl (.tail _ (.head _)) rfl rfl zq34) ?_) | (refine zc_take (i := 19) rfl zq43 zq43 zq43 zq43 zq43 zq43 zq31 rfl rfl (zpb_load_agg rfl zq40 rfl (.tail _ (.tail _ (.head _))) rfl rfl zq34) ?_)) | (refine zc_notU (i := 19) rfl zq43 zq43 zq43 zq43 zq17 rfl ?_)
      first | (refine zc_take0 (i := 20) rfl zq43 zq43 zq43 zq43 zq31 rfl rfl (ZPure0.pure (zp_move rfl rfl)) ?_) | (refine zc_notU (i := 20) rfl zq43 zq43 zq43 zq43 zq17 rfl ?_)
      first | (refine zc_take0 (i := 21) rfl zq43 zq43 zq43 zq43 zq31 rfl rfl (ZPure0.pure (zp_move rfl rfl)) ?_) | (refine zc_notU (i := 21) rfl zq43 zq43 zq43 zq43 zq17 rfl ?_)
      first | (first | (refine zc_take0 (i := 22) rfl zq43 zq43 zq43 zq43 zq31 rfl rfl (ZPure0.pure (zp_cBlo rfl zq41 zq39 rfl rfl zq10 zq10 zq28 )) ?_) | (refine zc_take0 (i := 22) rfl zq43 zq43 zq43 zq43 zq31 rfl rfl (ZPure0.pure (zp_cRlo rfl zq41 zq39 rfl rfl zq10 zq10 zq28 )) ?_) | (refine zc_take0 (i := 22) rfl zq43 zq43 zq43 zq43 zq31 rfl rfl (ZPure0.pure (zp_cMlo rfl zq41 zq39 rfl rfl zq10 zq10 zq10 (by first | (left; omega) | (right; omega) | (left; decide) | (right; simp only [List.length_map, rowR_length, intR_length, msgR_length, pairR_length, lnodesR_length, chR_length]; omega)) zq28)) ?_) | (refine zc_take0 (i := 22) rfl zq43 zq43 zq43 zq43 zq31 rfl rfl (ZPure0.pure (zp_cME rfl zq41 zq39 rfl rfl zq10 zq10 )) ?_)) | (refine zc_notU (i := 22) rfl zq43 zq43 zq43 zq43 zq17 rfl ?_)
      skip
      refine zc_notU (i := 23) rfl zq43 zq43 zq43 zq43 zq17 rfl ?_
      skip
      refine zc_notU (i := 24) rfl zq43 zq43 zq43 zq43 zq17 rfl ?_
      first | (refine zc_take0 (i := 25) rfl zq43 zq43 zq43 zq43 zq31 rfl rfl (ZPure0.pure (zp_not rfl rfl)) ?_) | (refine zc_notU (i := 25) rfl zq43 zq43 zq43 zq43 zq17 rfl ?_)
      first | (refine zc_take0 (i := 26) rfl zq43 zq43 zq43 zq43 zq31 rfl rfl (ZPure0.pure (zp_move rfl rfl)) ?_) | (refine zc_notU (i := 26) rfl zq43 zq43 zq43 zq43 zq17 rfl ?_)
      first | (refine zc_take0 (i := 27) rfl zq43 zq43 zq43 zq43 zq31 rfl rfl (ZPure0.pure (zp_move rfl rfl)) ?_) | (refine zc_notU (i := 27) rfl zq43 zq43 zq43 zq43 zq17 rfl ?_)
      first | (refine zc_take0 (i := 28) rfl zq43 zq43 zq43 zq43 zq31 rfl rfl (ZPure0.pure (zp_move rfl rfl)) ?_) | (refine zc_notU (i := 28) rfl zq43 zq43 zq43 zq43 zq17 rfl ?_)
      first | (refine zc_take0 (i := 29) rfl zq43 zq43 zq43 zq43 zq31 rfl rfl (ZPure0.pure (zp_move rfl rfl)) ?_) | (refine zc_notU (i := 29) rfl zq43 zq43 zq43 zq43 zq17 rfl ?_)
      first | (refine zc_take0 (i := 30) rfl zq43 zq43 zq43 zq43 zq31 rfl rfl zq0 ?_) | (refine zc_notU (i := 30) rfl zq43 zq43 zq43 zq43 zq17 rfl ?_)
      first | (refine zc_take0 (i := 31) rfl zq43 zq43 zq43 zq43 zq31 rfl rfl zq21 ?_) | (refine zc_notU (i := 31) rfl zq43 zq43 zq43 zq43 zq17 rfl ?_)
      first | (first | (refine zc_take0 (i := 32) rfl zq43 zq43 zq43 zq43 zq31 rfl rfl (zp_load_ref rfl zq40 rfl rfl) ?_) | (refine zc_take0 (i := 32) rfl zq43 zq43 zq43 zq43 zq31 rfl rfl (zp_load_refAll rfl zq40 rfl rfl) ?_) | (refine zc_take (i := 32) rfl zq43 zq43 zq43 zq43 zq43 zq43 zq31 rfl rfl (zpb_load rfl zq40 rfl (.head _) rfl zq35) ?_) | (refine zc_take (i := 32) rfl zq43 zq43 zq43 zq43 zq43 zq43 zq31 rfl rfl (zpb_load rfl zq40 rfl (.tail _ (.head _)) rfl zq35) ?_) | (refine zc_take (i := 32) rfl zq43 zq43 zq43 zq43 zq43 zq43 zq31 rfl rfl (zpb_load rfl zq40 rfl (.tail _ (.tail _ (.head _))) rfl zq35) ?_) | (refine zc_take (i := 32) rfl zq43 zq43 zq43 zq43 zq43 zq43 zq31 rfl rfl (zpb_load_agg rfl zq40 rfl (.head _) rfl rfl zq34) ?_) | (refine zc_take (i := 32) rfl zq43 zq43 zq43 zq43 zq43 zq43 zq31 rfl rfl (zpb_load_agg rfl zq40 rfl (.tail _ (.head _)) rfl rfl zq34) ?_) | (refine zc_take (i := 32) rfl zq43 zq43 zq43 zq43 zq43 zq43 zq31 rfl rfl (zpb_load_agg rfl zq40 rfl (.tail _ (.tail _ (.head _))) rfl rfl zq34) ?_)) | (refine zc_notU (i := 32) rfl zq43 zq43 zq43 zq43 zq17 rfl ?_)
      skip
      refine zc_notU (i := 33) rfl zq43 zq43 zq43 zq43 zq17 rfl ?_
      first | (refine zc_take0 (i := 34) rfl zq43 zq43 zq43 zq43 zq31 rfl rfl (ZPure0.pure (zp_not rfl rfl)) ?_) | (refine zc_notU (i := 34) rfl zq43 zq43 zq43 zq43 zq17 rfl ?_)
      first | (refine zc_take0 (i := 35) rfl zq43 zq43 zq43 zq43 zq31 rfl rfl zq20 ?_) | (refine zc_notU (i := 35) rfl zq43 zq43 zq43 zq43 zq17 rfl ?_)
      first | (refine zc_take0 (i := 36) rfl zq43 zq43 zq43 zq43 zq31 rfl rfl zq20 ?_) | (refine zc_notU (i := 36) rfl zq43 zq43 zq43 zq43 zq17 rfl ?_)
      refine zc_take0 (i := 37) rfl zq43 zq43 zq43 zq43 zq31 rfl rfl zq20 ?_
      refine zc_take0 (i := 38) rfl zq43 zq43 zq43 zq43 zq31 rfl rfl (ZPure0.pure (zp_move rfl rfl)) ?_
      first | (refine zc_take0 (i := 39) rfl zq43 zq43 zq43 zq43 zq31 rfl rfl (ZPure0.pure (zp_move rfl rfl)) ?_) | (refine zc_notU (i := 39) rfl zq43 zq43 zq43 zq43 zq17 rfl ?_)
      first | (refine zc_take0 (i := 40) rfl zq43 zq43 zq43 zq43 zq31 rfl rfl (ZPure0.pure (zp_not rfl rfl)) ?_) | (refine zc_notU (i := 40) rfl zq43 zq43 zq43 zq43 zq17 rfl ?_)
      first | (refine zc_take0 (i := 41) rfl zq43 zq43 zq43 zq43 zq31 rfl rfl (ZPure0.pure (zp_move rfl rfl)) ?_) | (refine zc_notU (i := 41) rfl zq43 zq43 zq43 zq43 zq17 rfl ?_)
      first | (refine zc_take0 (i := 42) rfl zq43 zq43 zq43 zq43 zq31 rfl rfl (ZPure0.pure (zp_move rfl rfl)) ?_) | (refine zc_notU (i := 42) rfl zq43 zq43 zq43 zq43 zq17 rfl ?_)
      first | (refine zc_take0 (i := 43) rfl zq43 zq43 zq43 zq43 zq31 rfl rfl zq9 ?_) | (refine zc_notU (i := 43) rfl zq43 zq43 zq43 zq43 zq17 rfl ?_)
      first | (refine zc_take0 (i := 44) rfl zq43 zq43 zq43 zq43 zq31 rfl rfl (ZPure0.pure (zp_gtr rfl rfl rfl)) ?_) | (refine zc_notU (i := 44) rfl zq43 zq43 zq43 zq43 zq17 rfl ?_)
      first | (refine zc_take0 (i := 45) rfl zq43 zq43 zq43 zq43 zq31 rfl rfl (ZPure0.pure (zp_move rfl rfl)) ?_) | (refine zc_notU (i := 45) rfl zq43 zq43 zq43 zq43 zq17 rfl ?_)
      first | (refine zc_take0 (i := 46) rfl zq43 zq43 zq43 zq43 zq31 rfl rfl zq21 ?_) | (refine zc_notU (i := 46) rfl zq43 zq43 zq43 zq43 zq17 rfl ?_)
      first | (first | (refine zc_take0 (i := 47) rfl zq43 zq43 zq43 zq43 zq31 rfl rfl (zp_load_ref rfl zq40 rfl rfl) ?_) | (refine zc_take0 (i := 47) rfl zq43 zq43 zq43 zq43 zq31 rfl rfl (zp_load_refAll rfl zq40 rfl rfl) ?_) | (refine zc_take (i := 47) rfl zq43 zq43 zq43 zq43 zq43 zq43 zq31 rfl rfl (zpb_load rfl zq40 rfl (.head _) rfl zq35) ?_) | (refine zc_take (i := 47) rfl zq43 zq43 zq43 zq43 zq43 zq43 zq31 rfl rfl (zpb_load rfl zq40 rfl (.tail _ (.head _)) rfl zq35) ?_) | (refine zc_take (i := 47) rfl zq43 zq43 zq43 zq43 zq43 zq43 zq31 rfl rfl (zpb_load rfl zq40 rfl (.tail _ (.tail _ (.head _))) rfl zq35) ?_) | (refine zc_take (i := 47) rfl zq43 zq43 zq43 zq43 zq43 zq43 zq31 rfl rfl (zpb_load_agg rfl zq40 rfl (.head _) rfl rfl zq34) ?_) | (refine zc_take (i := 47) rfl zq43 zq43 zq43 zq43 zq43 zq43 zq31 rfl rfl (zpb_load_agg rfl zq40 rfl (.tail _ (.head _)) rfl rfl zq34) ?_) | (refine zc_take (i := 47) rfl zq43 zq43 zq43 zq43 zq43 zq43 zq31 rfl rfl (zpb_load_agg rfl zq40 rfl (.tail _ (.tail _ (.head _))) rfl rfl zq34) ?_)) | (refine zc_notU (i := 47) rfl zq43 zq43 zq43 zq43 zq17 rfl ?_)
      first | (refine zc_take0 (i := 48) rfl zq43 zq43 zq43 zq43 zq31 rfl rfl zq20 ?_) | (refine zc_notU (i := 48) rfl zq43 zq43 zq43 zq43 zq17 rfl ?_)
      first | (refine zc_take0 (i := 49) rfl zq43 zq43 zq43 zq43 zq31 rfl rfl zq20 ?_) | (refine zc_notU (i := 49) rfl zq43 zq43 zq43 zq43 zq17 rfl ?_)
      refine zc_take0 (i := 50) rfl zq43 zq43 zq43 zq43 zq31 rfl rfl zq20 ?_
      first | refine zc_end (fun _ => by first | assumption | (repeat (first | exact BOwn.nil _ | refine BOwn.cons zq7 ?_))) zq43 ?_ | refine zc_endB (fun _ => by first | assumption | (repeat (first | exact BOwn.nil _ | refine BOwn.cons zq7 ?_))) zq43 ?_ | refine zc_endBB (fun _ => by first | assumption | (repeat (first | exact BOwn.nil _ | refine BOwn.cons zq7 ?_))) zq43 ?_ | refine zc_done (fun _ => by first | assumption | (repeat (first | exact BOwn.nil _ | refine BOwn.cons zq7 ?_))) zq43 ?_
      (repeat (first | ((with_reducible apply zr_region); (try simp only [List.append_eq, List.cons_append, List.nil_append])) | ((with_reducible apply zs_move); (exact rfl); (exact rfl)) | ((with_reducible apply zr_cond_f); (exact rfl); (first | assumption | exact rfl)) | ((with_reducible apply zr_skip')) | ((with_reducible apply zs_load_refAll); (exact rfl); (exact rfl); (exact sh_of rfl); (exact rfl))))
      (try ((with_reducible apply zs_yes); exact rfl; exact rfl; (first | assumption | exact rfl))); refine zo_callU (msgs_ps (c := c) (l := m) (tl := 0) ⟨by omega, by omega, by omega, by omega, by omega⟩) Try.func38 zq43 rfl rfl rfl rfl (by decide) rfl rfl zq5 ?_
      refine ⟨rfl, fun d hd => ?_⟩
      obtain ⟨y, rfl, hy⟩ := hd
      have hyl := hy.len
      have hyb := hy.lmb
      (repeat (first | ((with_reducible apply zr_region); (try simp only [List.append_eq, List.cons_append, List.nil_append])) | ((with_reducible apply zo_end)) | ((with_reducible apply zo_endB)) | ((with_reducible apply zs_move); (exact rfl); (exact rfl)) | ((with_reducible apply zs_assign); (exact rfl); (exact rfl)) | ((with_reducible apply zs_add); (exact rfl); (exact rfl); (exact rfl); (first | (with_reducible assumption) | exact wrap_in64 (by omega) (by omega)))))
      exact ⟨mm - 1, _, by omega, ⟨i + 1, y, by omega, rfl, hS, by omega, hyb⟩, zq27, zq27⟩
  · (repeat (first | ((with_reducible apply zr_seq)) | ((with_reducible apply zr_region); (try simp only [List.append_eq, List.cons_append, List.nil_append])) | ((with_reducible apply zs_move); (exact rfl); (exact rfl)) | (with_reducible refine zr_exit ?_; simp only [Zthen, Zblock, ↓reduceIte]) | ((with_reducible apply zs_load_refAll); (exact rfl); (exact rfl); (exact sh_of rfl); (exact rfl))))
    (try ((with_reducible apply zs_yes); exact rfl; exact rfl; (first | assumption | exact rfl))); refine zo_callU (pairs_ps (c := c) (l := q) (tl := 0) ⟨by omega, by omega, by omega⟩) Try.func29 zq43 rfl rfl rfl rfl (by decide) rfl rfl zq5 ?_
    refine ⟨rfl, fun d hd => ?_⟩
    obtain ⟨r, rfl, hr⟩ := hd
    have hrl := hr.len
    have hrb := hr.lpb
    have hb1 : ((0 ≤ c.l ∧ c.l ≤ 1000000 ∧ 0 ≤ c.c ∧ c.c ≤ 1000000) ∧ (c.l + c.c + 1) / 2 = (h : Int) ∧ 1 ≤ h) ∧ r.length ≤ 2147483648 ∧ ∀ q ∈ r, PB q := ⟨⟨⟨by omega, by omega, by omega, by omega⟩, hh, hh1⟩, by omega, hrb⟩
    have hb2 : ((0 ≤ c.l ∧ c.l ≤ 1000000 ∧ 0 ≤ c.c ∧ c.c ≤ 1000000) ∧ (c.l + c.c + 1) / 2 = (h : Int) ∧ 1 ≤ h) ∧ r.length ≤ 2147483648 := ⟨hb1.1, hb1.2.1⟩
    (repeat (first | ((with_reducible apply zr_seq)) | ((with_reducible apply zo_end)) | ((with_reducible apply zs_assign); (exact rfl); (exact rfl))))
    refine zr_flatK _ zq43 (sub_cons (k := 5) rfl (sub_cons (k := 20) rfl (sub_nil _))) ?_
    first | refine zf_cons rfl rfl rfl zq31 (fun st K hK => ZPure.opK rfl (by decide) (zp_load_ref rfl zq40 rfl rfl) hK) ?_ | refine zf_cons rfl rfl rfl zq31 (fun st K hK => ZPure.opK rfl (by decide) (zp_load_refAll rfl zq40 rfl rfl) hK) ?_
    refine zf_cons rfl rfl rfl zq31 (fun st K hK => ZPure.opK rfl (by decide) (ZPure0.pure (zp_move rfl rfl)) hK) ?_
    refine zf_cons rfl rfl rfl zq31 (fun st K hK => zop_callQ rbuild_pf cl_39 rfl rfl (by decide) rfl rfl zq13 zq16 hK) ?_
    first | refine zf_cons rfl rfl rfl zq31 (fun st K hK => ZPure.opK rfl (by decide) (zp_load_ref rfl zq40 rfl rfl) hK) ?_ | refine zf_cons rfl rfl rfl zq31 (fun st K hK => ZPure.opK rfl (by decide) (zp_load_refAll rfl zq40 rfl rfl) hK) ?_
    refine zf_cons rfl rfl rfl zq31 (fun st K hK => ZPure.opK rfl (by decide) (ZPure0.pure (zp_move rfl rfl)) hK) ?_
    refine zf_cons rfl rfl rfl zq31 (fun st K hK => zop_callQ lbuild_pf cl_30 rfl rfl (by decide) rfl rfl zq13 zq16 hK) ?_
    refine zf_cons rfl rfl rfl zq31 (fun st K hK => ZPure.opK rfl (by decide) (ZPure0.pure (zp_assign rfl rfl)) hK) ?_
    refine zf_cons rfl rfl rfl zq31 (fun st K hK => ZPure.opK rfl (by decide) (ZPure0.pure (zp_assign rfl rfl)) hK) ?_
    refine zf_nil ⟨by kernel_rfl, by kernel_rfl, ?_⟩
    refine zr_subE (sub_cons (k := 20) rfl (sub_cons (k := 21) rfl (sub_cons (k := 22) rfl (sub_nil _)))) ?_
    obtain ⟨N, hN⟩ : ∃ N, N = cntF r.length h := ⟨_, rfl⟩
    rw [← hN]
    have hrG : (lnodesR (leavesL h r N)).length = N := by rw [lnodesR_length, leavesL_length]
    have hrW : (chR (chunksL h r N)).length = N := by rw [chR_length, chunksL_length]
    have gL : decide (((lnodesR (leavesL h r N)).length : Int) ≠ ((chR (chunksL h r N)).length : Nat)) = false := decide_eq_false (by omega)
    have hof : r.length ≤ 2147483648 ∧ ∀ q ∈ r, PB q := ⟨by omega, hrb⟩
    have hv3 : r.length ≤ 2147483648 := by omega
    have hv4 : r.length ≤ 4611686018427387904 := by omega
    have hn3 : NB (leafN r) := leafNB (by omega)
    have hD3 : decide (leafN r = leafN r) = true := by simp
    have hD4 : decide (r = r) = true := by simp
    have hDD : ∀ n : NodeV, decide (n = n) = true := fun n => by simp
    (repeat (first | ((with_reducible apply zr_seq)) | ((with_reducible apply zr_region); (try simp only [List.append_eq, List.cons_append, List.nil_append])) | ((with_reducible apply zo_end)) | ((with_reducible apply zs_yes); (exact rfl); (exact rfl); (first | assumption | exact rfl)) | ((with_reducible apply zs_move); (exact rfl); (exact rfl)) | ((with_reducible apply zs_neq); (exact rfl); (exact rfl); (exact rfl)) | ((with_reducible apply zs_not); (exact rfl); (exact rfl)) | ((with_reducible apply zs_pick_f); (exact rfl); (exact rfl); (first | assumption | exact rfl); (exact rfl)) | ((with_reducible apply zs_len); (exact rfl); (exact rfl); (exact un_sl rfl)) | ((with_reducible apply zs_orB); (exact rfl); (exact rfl); (exact rfl); (intro hp_; first | exact congrArg some (gd_t hp_) | exact rfl)) | ((with_reducible apply (zs_h_move [77, 78, 79, 80, 81, 82, 83, 88, 89, 90, 91, 92, 93, 94, 95, 104])); (exact rfl); (first | exact GC.t rfl rfl | exact GC.f rfl rfl | exact GC.gt rfl rfl | exact GC.gf rfl rfl); (exact rfl); (intro hc_; first | exact congrArg some (gd_t hc_) | exact congrArg some (gd_t (band_l hc_)) | exact congrArg some (gd_t (band_l (band_l hc_))) | exact rfl)) | ((with_reducible apply (zs_h_not [77, 78, 79, 80, 81, 82, 83, 88, 89, 90, 91, 92, 93, 94, 95, 104])); (exact rfl); (first | exact GC.t rfl rfl | exact GC.f rfl rfl | exact GC.gt rfl rfl | exact GC.gf rfl rfl); (exact rfl); (intro hc_; first | exact congrArg some (gd_t hc_) | exact congrArg some (gd_t (band_l hc_)) | exact congrArg some (gd_t (band_l (band_l hc_))) | exact rfl)) | ((with_reducible apply (zs_h_callQ [77, 78, 79, 80, 81, 82, 83, 88, 89, 90, 91, 92, 93, 94, 95, 104] lpairs_pf cl_31)); (exact rfl); (first | exact GC.t rfl rfl | exact GC.f rfl rfl | exact GC.gt rfl rfl | exact GC.gf rfl rfl); (exact rfl); (intro hc_; (repeat ((with_reducible apply evs_cons); (first | exact congrArg some (gd_t hc_) | exact congrArg some (gd_t (band_l hc_)) | exact rfl))); exact evs_nil); ((repeat (first | exact DLes.nil | (apply DLes.cons; first | exact DLe.refl _ | exact DLe.nilB | exact DLe.nilR | exact DLe.nilI | exact dle_lf1 | exact dle_lm2 | exact dle_lp4 | exact dle_lp0 | exact dle_app2)))); (intro hc_; first | exact trivial | assumption | ((try simp only [Bool.and_eq_true, decide_eq_true_eq, Bool.not_eq_true'] at hc_); (repeat' (with_reducible refine And.intro ?_ ?_)) <;> first | assumption | omega | exact trivial | (simp; done) | (simp; omega)))) | ((with_reducible apply (zs_h_callQ [77, 78, 79, 80, 81, 82, 83, 88, 89, 90, 91, 92, 93, 94, 95, 104] leafv_pf cl_35)); (exact rfl); (first | exact GC.t rfl rfl | exact GC.f rfl rfl | exact GC.gt rfl rfl | exact GC.gf rfl rfl); (exact rfl); (intro hc_; (repeat ((with_reducible apply evs_cons); (first | exact congrArg some (gd_t hc_) | exact congrArg some (gd_t (band_l hc_)) | exact rfl))); exact evs_nil); ((repeat (first | exact DLes.nil | (apply DLes.cons; first | exact DLe.refl _ | exact DLe.nilB | exact DLe.nilR | exact DLe.nilI | exact dle_lf1 | exact dle_lm2 | exact dle_lp4 | exact dle_lp0 | exact dle_app2)))); (intro hc_; first | exact trivial | assumption | ((try simp only [Bool.and_eq_true, decide_eq_true_eq, Bool.not_eq_true'] at hc_); (repeat' (with_reducible refine And.intro ?_ ?_)) <;> first | assumption | omega | exact trivial | (simp; done) | (simp; omega)))) | ((with_reducible apply (zs_h_callQ [77, 78, 79, 80, 81, 82, 83, 88, 89, 90, 91, 92, 93, 94, 95, 104] sameP_pf cl_32)); (exact rfl); (first | exact GC.t rfl rfl | exact GC.f rfl rfl | exact GC.gt rfl rfl | exact GC.gf rfl rfl); (exact rfl); (intro hc_; (repeat ((with_reducible apply evs_cons); (first | exact congrArg some (gd_t hc_) | exact congrArg some (gd_t (band_l hc_)) | exact rfl))); exact evs_nil); ((repeat (first | exact DLes.nil | (apply DLes.cons; first | exact DLe.refl _ | exact DLe.nilB | exact DLe.nilR | exact DLe.nilI | exact dle_lf1 | exact dle_lm2 | exact dle_lp4 | exact dle_lp0 | exact dle_app2)))); (intro hc_; first | exact trivial | assumption | ((try simp only [Bool.and_eq_true, decide_eq_true_eq, Bool.not_eq_true'] at hc_); (repeat' (with_reducible refine And.intro ?_ ?_)) <;> first | assumption | omega | exact trivial | (simp; done) | (simp; omega)))) | ((with_reducible apply (zs_callQ leafv_pf cl_35)); (exact rfl); (exact rfl); ((repeat (first | exact DLes.nil | (apply DLes.cons; first | exact DLe.refl _ | exact DLe.nilB | exact DLe.nilR | exact DLe.nilI | exact dle_lf1 | exact dle_lm2 | exact dle_lp4 | exact dle_lp0 | exact dle_app2)))); (first | exact trivial | assumption | ((repeat' (with_reducible refine And.intro ?_ ?_)) <;> first | assumption | omega | exact trivial | (simp; done) | (simp; omega)))) | ((with_reducible apply (zs_callQ of_pf cl_40)); (exact rfl); (exact rfl); ((repeat (first | exact DLes.nil | (apply DLes.cons; first | exact DLe.refl _ | exact DLe.nilB | exact DLe.nilR | exact DLe.nilI | exact dle_lf1 | exact dle_lm2 | exact dle_lp4 | exact dle_lp0 | exact dle_app2)))); (first | exact trivial | assumption | ((repeat' (with_reducible refine And.intro ?_ ?_)) <;> first | assumption | omega | exact trivial | (simp; done) | (simp; omega)))) | ((with_reducible apply (zs_callQ sameN_pf cl_27)); (exact rfl); (exact rfl); ((repeat (first | exact DLes.nil | (apply DLes.cons; first | exact DLe.refl _ | exact DLe.nilB | exact DLe.nilR | exact DLe.nilI | exact dle_lf1 | exact dle_lm2 | exact dle_lp4 | exact dle_lp0 | exact dle_app2)))); (first | exact trivial | assumption | ((repeat' (with_reducible refine And.intro ?_ ?_)) <;> first | assumption | omega | exact trivial | (simp; done) | (simp; omega))))))
    rw [hD3, hD4]
    (repeat (first | ((with_reducible apply zr_seq)) | ((with_reducible apply zr_region); (try simp only [List.append_eq, List.cons_append, List.nil_append])) | ((with_reducible apply zo_end)) | ((with_reducible apply zs_assign); (exact rfl); (exact rfl)) | ((with_reducible apply zr_cond_f); (exact rfl); (first | assumption | exact rfl)) | ((with_reducible apply zr_block)) | ((with_reducible apply zr_skip'))))
    have hS0 := hS
    refine zr_loopK [21, 22] (fun m e s => ∃ i : Nat, m + i = N ∧ e = [(23, .v (.int .i64 (i : Nat)))] ∧ Zm.Sep st s []) N _ zq23 ⟨0, by omega, rfl, hS⟩ zq27 ?_
    rintro m2 e2 s2 ⟨j, hmj, rfl, hS⟩
    have hNb := cntF_bnd r.length h hh1
    rw [← hN] at hNb
    (repeat (first | ((with_reducible apply zr_seq)) | ((with_reducible apply zr_region); (try simp only [List.append_eq, List.cons_append, List.nil_append])) | ((with_reducible apply zo_end)) | ((with_reducible apply zs_move); (exact rfl); (exact rfl)) | ((with_reducible apply zs_lss); (exact rfl); (exact rfl); (exact rfl)) | ((with_reducible apply zs_len); (exact rfl); (exact rfl); (exact un_sl rfl))))
    (first | refine zr_cond rfl (fun h5 => ?_) (fun h5 => ?_) | refine zs_split rfl rfl (fun h5 => ?_) (fun h5 => ?_)) <;> have h5' := h5 <;> (try simp only [decide_eq_true_eq, decide_eq_false_iff_not, Bool.and_eq_true, Bool.or_eq_true, Bool.and_eq_false_iff, Bool.or_eq_false_iff, Bool.not_eq_true', Bool.not_eq_false', Bool.not_eq_true, Bool.not_eq_false, Int.not_le, Int.not_lt, Classical.not_not, Decidable.not_not, ne_eq, beq_iff_eq, bne_iff_ne] at h5')
    · have hj : j < N := by omega
      have hget := leavesG_get (h := h) (p := r) hj
      have hwant : (chR (chunksL h r N)).getD j [] = [D.row (pairR (chunkL h r j)) 2 0] := by
        rw [List.getD_eq_getElem?_getD]
        unfold chR chunksL
        rw [List.getElem?_map, List.getElem?_map, List.getElem?_range hj]
        rfl
      have hcl : (chunkL h r j).length ≤ r.length := by unfold chunkL; rw [List.length_take, List.length_drop]; omega
      have hv5 : (chunkL h r j).length ≤ 2147483648 := by omega
      have hn5 : NB (leafN (chunkL h r j)) := leafNB (by omega)
      (repeat (first | ((with_reducible apply zr_seq)) | ((with_reducible apply zr_block)) | ((with_reducible apply zr_skip'))))
      refine zc_begin (m := 11) ([]) [] zq43 rfl ?_
      refine zc_take0 (i := 0) rfl zq43 zq43 zq43 zq43 zq31 rfl rfl (ZPure0.pure (zp_move rfl rfl)) ?_
      refine zc_take0 (i := 1) rfl zq43 zq43 zq43 zq43 zq31 rfl rfl (ZPure0.pure (zp_move rfl rfl)) ?_
      refine zc_take0 (i := 2) rfl zq43 zq43 zq43 zq43 zq31 rfl rfl zq0 ?_
      first | (refine zc_take0 (i := 3) rfl zq43 zq43 zq43 zq43 zq31 rfl rfl (zp_load_ref rfl zq40 rfl rfl) ?_) | (refine zc_take0 (i := 3) rfl zq43 zq43 zq43 zq43 zq31 rfl rfl (zp_load_refAll rfl zq40 rfl rfl) ?_) | (refine zc_take (i := 3) rfl zq43 zq43 zq43 zq43 zq43 zq43 zq31 rfl rfl (zpb_load rfl zq40 rfl (.head _) rfl zq35) ?_) | (refine zc_take (i := 3) rfl zq43 zq43 zq43 zq43 zq43 zq43 zq31 rfl rfl (zpb_load rfl zq40 rfl (.tail _ (.head _)) rfl zq35) ?_) | (refine zc_take (i := 3) rfl zq43 zq43 zq43 zq43 zq43 zq43 zq31 rfl rfl (zpb_load rfl zq40 rfl (.tail _ (.tail _ (.head _))) rfl zq35) ?_) | (refine zc_take (i := 3) rfl zq43 zq43 zq43 zq43 zq43 zq43 zq31 rfl rfl (zpb_load_agg rfl zq40 rfl (.head _) rfl rfl zq34) ?_) | (refine zc_take (i := 3) rfl zq43 zq43 zq43 zq43 zq43 zq43 zq31 rfl rfl (zpb_load_agg rfl zq40 rfl (.tail _ (.head _)) rfl rfl zq34) ?_) | (refine zc_take (i := 3) rfl zq43 zq43 zq43 zq43 zq43 zq43 zq31 rfl rfl (zpb_load_agg rfl zq40 rfl (.tail _ (.tail _ (.head _))) rfl rfl zq34) ?_)
      refine zc_take0 (i := 4) rfl zq43 zq43 zq43 zq43 zq31 rfl rfl (ZPure0.pure (zp_move rfl rfl)) ?_
      refine zc_take0 (i := 5) rfl zq43 zq43 zq43 zq43 zq31 rfl rfl (ZPure0.pure (zp_move rfl rfl)) ?_
      refine zc_take0 (i := 6) rfl zq43 zq43 zq43 zq43 zq31 rfl rfl zq0 ?_
      first | (refine zc_take0 (i := 7) rfl zq43 zq43 zq43 zq43 zq31 rfl rfl (zp_load_ref rfl zq40 rfl rfl) ?_) | (refine zc_take0 (i := 7) rfl zq43 zq43 zq43 zq43 zq31 rfl rfl (zp_load_refAll rfl zq40 rfl rfl) ?_) | (refine zc_take (i := 7) rfl zq43 zq43 zq43 zq43 zq43 zq43 zq31 rfl rfl (zpb_load rfl zq40 rfl (.head _) rfl zq35) ?_) | (refine zc_take (i := 7) rfl zq43 zq43 zq43 zq43 zq43 zq43 zq31 rfl rfl (zpb_load rfl zq40 rfl (.tail _ (.head _)) rfl zq35) ?_) | (refine zc_take (i := 7) rfl zq43 zq43 zq43 zq43 zq43 zq43 zq31 rfl rfl (zpb_load rfl zq40 rfl (.tail _ (.tail _ (.head _))) rfl zq35) ?_) | (refine zc_take (i := 7) rfl zq43 zq43 zq43 zq43 zq43 zq43 zq31 rfl rfl (zpb_load_agg rfl zq40 rfl (.head _) rfl rfl zq34) ?_) | (refine zc_take (i := 7) rfl zq43 zq43 zq43 zq43 zq43 zq43 zq31 rfl rfl (zpb_load_agg rfl zq40 rfl (.tail _ (.head _)) rfl rfl zq34) ?_) | (refine zc_take (i := 7) rfl zq43 zq43 zq43 zq43 zq43 zq43 zq31 rfl rfl (zpb_load_agg rfl zq40 rfl (.tail _ (.tail _ (.head _))) rfl rfl zq34) ?_)
      refine zc_one (i := 8) (fun _ => by first | assumption | (repeat (first | exact BOwn.nil _ | refine BOwn.cons zq7 ?_))) zq43 rfl zq31 (zop_callQ leafv_pf cl_35 rfl rfl (by decide) rfl rfl zq13 zq16 ?_)
      refine zc_one (i := 9) (fun _ => by first | assumption | (repeat (first | exact BOwn.nil _ | refine BOwn.cons zq7 ?_))) zq43 rfl zq31 (zop_callQ sameN_pf cl_27 rfl rfl (by decide) rfl rfl zq13 zq16 ?_)
      refine zc_take0 (i := 10) rfl zq43 zq43 zq43 zq43 zq31 rfl rfl (ZPure0.pure (zp_not rfl rfl)) ?_
      first | refine zc_end (fun _ => by first | assumption | (repeat (first | exact BOwn.nil _ | refine BOwn.cons zq7 ?_))) zq43 ?_ | refine zc_endB (fun _ => by first | assumption | (repeat (first | exact BOwn.nil _ | refine BOwn.cons zq7 ?_))) zq43 ?_ | refine zc_endBB (fun _ => by first | assumption | (repeat (first | exact BOwn.nil _ | refine BOwn.cons zq7 ?_))) zq43 ?_ | refine zc_done (fun _ => by first | assumption | (repeat (first | exact BOwn.nil _ | refine BOwn.cons zq7 ?_))) zq43 ?_
      rw [hDD]
      (repeat (first | ((with_reducible apply zr_region); (try simp only [List.append_eq, List.cons_append, List.nil_append])) | ((with_reducible apply zo_end)) | ((with_reducible apply zs_move); (exact rfl); (exact rfl)) | ((with_reducible apply zs_assign); (exact rfl); (exact rfl)) | ((with_reducible apply zs_add); (exact rfl); (exact rfl); (exact rfl); (first | (with_reducible assumption) | exact wrap_in64 (by omega) (by omega))) | ((with_reducible apply zr_cond_f); (exact rfl); (first | assumption | exact rfl)) | ((with_reducible apply zr_skipB))))
      exact ⟨m2 - 1, _, by omega, ⟨j + 1, by omega, rfl, hS⟩, zq27, zq27⟩
    · (repeat (first | ((with_reducible apply zr_seq)) | ((with_reducible apply zr_region); (try simp only [List.append_eq, List.cons_append, List.nil_append])) | ((with_reducible apply zo_end)) | ((with_reducible apply zs_assign); (exact rfl); (exact rfl)) | (with_reducible refine zr_exit ?_; simp only [Zthen, Zblock, ↓reduceIte]) | ((with_reducible apply (zs_callQ awake21_pf cl_33)); (exact rfl); (exact rfl); ((repeat (first | exact DLes.nil | (apply DLes.cons; first | exact DLe.refl _ | exact DLe.nilB | exact DLe.nilR | exact DLe.nilI | exact dle_lf1 | exact dle_lm2 | exact dle_lp4 | exact dle_lp0 | exact dle_app2)))); (first | exact trivial | assumption | ((repeat' (with_reducible refine And.intro ?_ ?_)) <;> first | assumption | omega | exact trivial | (simp; done) | (simp; omega)))) | ((with_reducible apply zr_retZ); (exact rfl); (repeat (first | exact resD_nil _ _ _ | ((with_reducible apply resD_tmp); (exact rfl)) | ((with_reducible apply resD_cell_agg); (exact rfl); (exact sh_of rfl); (first | assumption | exact St.setH_self _ _ _ | exact Sep.at_ (i := 0) zq42 rfl | exact Sep.at_ (i := 1) zq42 rfl | exact Sep.at_ (i := 2) zq42 rfl | exact Sep.at_ (i := 3) zq42 rfl | exact Sep.at_ (i := 4) zq42 rfl | exact Sep.at_ (i := 5) zq42 rfl | exact Sep.at_ (i := 6) zq42 rfl); (exact rfl)) | ((with_reducible apply resD_cell); (exact rfl); (exact sh_of rfl); (first | assumption | exact St.setH_self _ _ _ | exact Sep.at_ (i := 0) zq42 rfl | exact Sep.at_ (i := 1) zq42 rfl | exact Sep.at_ (i := 2) zq42 rfl | exact Sep.at_ (i := 3) zq42 rfl | exact Sep.at_ (i := 4) zq42 rfl | exact Sep.at_ (i := 5) zq42 rfl | exact Sep.at_ (i := 6) zq42 rfl); (exact rfl)))); (simp only [resOf]))))
      exact KE.mk _ hS.ext hK
end Go.Proofs.ZtLe
