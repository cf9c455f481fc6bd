/- A part of the proof of NodeBack: walks of the functions that it reaches. No condition. -/
import Derived.Test.YtocpidlgcakldaaZtP17
import Derived.Test.YtocpidlgcakldaaZtP8
import Derived.Test.YtocpidlgcakldaaZmP2
import Derived.Test.YtocpidlgcakldaaZmAuto
namespace Go.Proofs.ZtLe
open Go.RowKit Go.Proofs Go.Proofs.Zm
set_option linter.unusedVariables false
set_option linter.unusedSimpArgs false
set_option maxHeartbeats 20000000
set_option maxRecDepth 100000
attribute [local irreducible] ZWp ZOps ZPure ZPure0 ZVal ZOp SoundF

/-! ### dumbwaiterlaw18.Node, of an even number of numbers -/
def zeroT : List D := [.v (.bool true), .v (.slice none 0 0), .v (.slice none 0 0), .v (.slice none 0 0), .v (.slice none 0 0)]
theorem nodeE_ps {c : CfgV} {l : List Int} {tl : Nat} (h : l.length % 2 = 0 ∧ l.length ≤ 140737488355328 ∧ NodeC c ∧ 0 ≤ c.l ∧ c.l ≤ 1000000) : PureS Try.prog 28 [.agg (cfgD c), .row (intR l) 1 tl] (fun d => ∃ n, d = .agg (nodeD n) ∧ NodeT n) := by
  obtain ⟨hev, hl, hc, hl0, hl1⟩ := h
  refine sound_ofA Try.func28 rfl Try.results28 ?_
  rintro w0 args st K ⟨rfl, hK⟩
  rw [Try.ntmps28]; refine ⟨by simp, ?_⟩
  have hS := Sep.nil st
  obtain ⟨hk1, hk2⟩ := hc.key
  obtain ⟨hv1, hv2⟩ := hc.val
  have hr0 : (intR l).length = l.length := intR_length _
  have hd : decide ((((intR l).length : Nat) : Int) % 2 = 0) = true := decide_eq_true (by omega)
  (repeat (first | ((with_reducible apply (zs_sstore (i := 0))); (exact rfl); (exact rfl); (exact sh_of rfl); (assumption); (exact rfl); (first | exact rfl | (simp [cells_orow])); ((try rw [cells_orow]); (repeat (first | exact one_nil | (apply one_cons; (first | exact rfl | exact one_orow _ _ _))))); (first | exact Nat.le_of_ble_eq_true rfl | omega | (focus (simp [cellsD, msgD, nodeD, pairD, cfgD, rdD]; done))); (first | (simp only [cells_orow, cD_int, cD_bool, cD_float, cD_nil, cD_ptr0, cD_str, cD_row, cD_mrow, cD_ptr, cD_ref, cD_fn, cD_agg, List.take_zero, List.take_succ_cons, List.take_nil, List.drop_succ_cons, List.drop_zero, List.drop_nil, List.nil_append, List.cons_append, List.append_nil, Nat.zero_add, Nat.reduceAdd]; exact rfl) | exact rfl); (intro sS hS); (try simp only [List.set_cons_zero, List.set_cons_succ] at hS)) | ((with_reducible apply zr_seq)) | ((with_reducible apply zr_region); (try simp only [List.append_eq, List.cons_append, List.nil_append])) | ((with_reducible apply zo_end)) | ((with_reducible apply zs_move); (exact rfl); (exact rfl)) | ((with_reducible apply zs_assign); (exact rfl); (exact rfl)) | ((with_reducible apply zs_eql); (exact rfl); (exact rfl); (exact rfl)) | ((with_reducible apply zs_not); (exact rfl); (exact rfl)) | ((with_reducible apply zs_len); (exact rfl); (exact rfl); (exact un_sl rfl)) | ((with_reducible apply zs_field_ptr); (exact rfl); (exact rfl); (exact fld_of rfl)) | ((with_reducible apply zs_field_ref); (exact rfl); (exact rfl); (exact fld_of rfl)) | ((with_reducible apply zs_load_ref); (exact rfl); (exact rfl); (exact sh_of rfl); (exact rfl)) | ((with_reducible apply zs_load_ptr); (exact rfl); (exact rfl); (exact sh_of rfl); (first | assumption | exact St.setH_self _ _ _ | exact Sep.at_ (i := 0) zq35 rfl | exact Sep.at_ (i := 1) zq35 rfl | exact Sep.at_ (i := 2) zq35 rfl | exact Sep.at_ (i := 3) zq35 rfl | exact Sep.at_ (i := 4) zq35 rfl | exact Sep.at_ (i := 5) zq35 rfl | exact Sep.at_ (i := 6) zq35 rfl); (first | exact rfl | assumption)) | ((with_reducible apply zs_build); (exact rfl); (exact el_of rfl); (exact st_of rfl); (exact rfl); (first | (simp only [fillD, cellsD, cells_orow, List.take_zero, List.take_succ_cons, List.take_nil, List.drop_succ_cons, List.drop_zero, List.drop_nil, List.nil_append, List.cons_append, List.append_nil, Nat.zero_add, Nat.reduceAdd, List.length_cons, List.length_nil]; exact rfl) | ((repeat (apply fillD_cons; exact rfl; (first | exact rfl | simp [cells_orow]); (exact Nat.le_of_ble_eq_true rfl); (simp only [cells_orow, cD_int, cD_bool, cD_float, cD_nil, cD_ptr0, cD_str, cD_row, cD_mrow, cD_ptr, cD_ref, cD_fn, cD_agg, List.take_zero, List.take_succ_cons, List.take_nil, List.drop_succ_cons, List.drop_zero, List.drop_nil, List.nil_append, List.cons_append, List.append_nil, Nat.zero_add, Nat.reduceAdd]; exact rfl))); exact rfl) | exact rfl)) | ((with_reducible apply (zs_mask (p := 2) 1)); (exact rfl); (exact rfl); (exact rfl); (exact rfl); (decide); (decide); (decide)) | ((with_reducible apply (zs_boxRef (t := 2))); (exact rfl); (exact rfl)) | ((with_reducible apply (zs_salloc (t := 4))); (exact rfl); (exact el_of rfl); (simp [oneD, Value.oneCell']); (assumption); (intro a4 sS hS)) | ((with_reducible apply (zs_salloc (t := 5))); (exact rfl); (exact el_of rfl); (simp [oneD, Value.oneCell']); (assumption); (intro a5 sS hS))))
  rw [hd] at hS
  (first | refine zr_cond rfl (fun h1 => ?_) (fun h1 => ?_) | refine zs_split rfl rfl (fun h1 => ?_) (fun h1 => ?_)) <;> have h1' := h1 <;> (try simp only [decide_eq_true_eq, decide_eq_false_iff_not, Bool.and_eq_true, Bool.or_eq_true, Bool.and_eq_false_iff, Bool.or_eq_false_iff, Bool.not_eq_true', Bool.not_eq_false', Bool.not_eq_true, Bool.not_eq_false, Int.not_le, Int.not_lt, Classical.not_not, Decidable.not_not, ne_eq, beq_iff_eq, bne_iff_ne] at h1')
  · exact absurd h1 (by rw [hd]; simp)
  (repeat (first | ((with_reducible apply zr_seq)) | ((with_reducible apply zr_region); (try simp only [List.append_eq, List.cons_append, List.nil_append])) | ((with_reducible apply zo_end)) | ((with_reducible apply zs_assign); (exact rfl); (exact rfl)) | ((with_reducible apply zr_block)) | ((with_reducible apply zr_skip'))))
  refine zr_as 7 (.row (rowR []) 1 0) rfl zq2 ?_
  refine zr_loopK [1, 2, 4, 5, 6] (fun m e s => ∃ i ks, m + i = l.length ∧ e = [(7, .row (rowR ks) 1 0), (8, .v (.int .i64 (i : Nat)))] ∧ Zm.Sep st s [(some a5, zeroT), (some a4, zeroN)] ∧ ks.length ≤ i ∧ (ks.length : Int) ≤ c.l ∧ ∀ k ∈ ks, k.length ≤ 3 ∧ (k.length : Int) ≤ c.keyMax) l.length _ zq19 ⟨0, [], by simp, rfl, hS, by simp, by simp; omega, by simp⟩ zq21 ?_
  rintro m e s ⟨i, ks, hm, rfl, hS, hs2, hs3, hs4⟩
  have hr1 : (rowR ks).length = ks.length := rowR_length _
  by_cases hgo : i < l.length ∧ (ks.length : Int) < c.l
  · have hi1 : decide ((i : Int) < ((intR l).length : Int)) = true := decide_eq_true (by omega)
    have hi2 : decide (((rowR ks).length : Int) < c.l) = true := decide_eq_true (by omega)
    (repeat (first | ((with_reducible apply zr_seq)) | ((with_reducible apply zr_region); (try simp only [List.append_eq, List.cons_append, List.nil_append])) | ((with_reducible apply zo_end)) | ((with_reducible apply zs_yes); (exact rfl); (exact rfl); (first | assumption | exact rfl)) | ((with_reducible apply zs_move); (exact rfl); (exact rfl)) | ((with_reducible apply zs_lss); (exact rfl); (exact rfl); (exact rfl)) | ((with_reducible apply zs_pick_t); (exact rfl); (exact rfl); (first | assumption | exact rfl); (exact rfl)) | ((with_reducible apply zs_len); (exact rfl); (exact rfl); (exact un_sl rfl)) | ((with_reducible apply zr_cond_t); (exact rfl); (first | assumption | exact rfl)) | ((with_reducible apply zr_block)) | ((with_reducible apply zr_skip'))))
    refine zr_cutK [1, 2, 4, 5, 6, 7, 8, 9] (fun e s => ∃ (kk : Bs) (t : Nat), kk.length ≤ 3 ∧ e = [(9, .row (bytesD kk) 1 t)] ∧ Zm.Sep st s [(some a5, zeroT), (some a4, zeroN)]) zq19 ?_ ?_
    · obtain ⟨x, hx, hxt, _, hxg⟩ := eltI (l := l) (i := i) (by omega)
      obtain ⟨b, hb⟩ := u8_of (x / 8)
      refine zc_begin (m := 16) ([]) [] zq36 rfl ?_
      refine zc_take0 (i := 0) rfl zq36 zq36 zq36 zq36 zq26 rfl rfl (ZPure0.pure (zp_move rfl rfl)) ?_
      refine zc_take0 (i := 1) rfl zq36 zq36 zq36 zq36 zq26 rfl rfl (ZPure0.pure (zp_move rfl rfl)) ?_
      refine zc_take0 (i := 2) rfl zq36 zq36 zq36 zq36 zq26 rfl rfl zq0 ?_
      refine zc_take0 (i := 3) rfl zq36 zq36 zq36 zq36 zq26 rfl rfl (zp_load_ref rfl zq33 rfl rfl) ?_
      refine zc_take0 (i := 4) rfl zq36 zq36 zq36 zq36 zq26 rfl rfl zq18 ?_
      refine zc_take0 (i := 5) rfl zq36 zq36 zq36 zq36 zq26 rfl rfl (zp_load_ref rfl zq33 rfl rfl) ?_
      refine zc_take0 (i := 7) rfl zq36 zq36 zq36 zq36 zq26 rfl rfl (ZPure0.pure (zp_move rfl rfl)) ?_
      refine zc_take0 (i := 8) rfl zq36 zq36 zq36 zq36 zq26 rfl rfl (ZPure0.pure (zp_move rfl rfl)) ?_
      refine zc_take0 (i := 9) rfl zq36 zq36 zq36 zq36 zq26 rfl rfl zq0 ?_
      refine zc_take0 (i := 10) rfl zq36 zq36 zq36 zq36 zq26 rfl rfl (zp_load_ref rfl zq33 rfl rfl) ?_
      refine zc_take0 (i := 11) rfl zq36 zq36 zq36 zq36 zq26 rfl rfl (ZPure0.pure (zp_shrI (p := 8) rfl rfl (by decide) rfl (by decide))) ?_
      refine zc_take0 (i := 12) rfl zq36 zq36 zq36 zq36 zq26 rfl rfl (ZPure0.pure (zp_conv rfl rfl (by exact un_int rfl) (by exact un_int rfl) zq22)) ?_
      skip
      refine zc_all2 (i := 6) (j := 13) (fun _ => by first | assumption | (repeat (first | exact BOwn.nil _ | refine BOwn.cons zq5 ?_))) zq36 ?_ ?_
      · refine zoneC_op (i := 6) (fun _ => by first | assumption | (repeat (first | exact BOwn.nil _ | refine BOwn.cons zq5 ?_))) rfl zq26 ?_
        refine zop_callU key_snd Try.func54 zq36 rfl rfl rfl (by decide) rfl rfl (Ups.refl _) ?_
        refine ⟨_, _, rfl, by omega, by omega, fun kk t hl1 hl2 ht ht0 => ?_⟩
        refine zc_one_val (i := 13) (fun _ => by first | assumption | (repeat (first | exact BOwn.nil _ | refine BOwn.cons zq5 ?_))) zq36 rfl zq26 rfl rfl (zv_litR (xs := [.tmp 51]) _ rfl rfl rfl zq34 zq32 zq28 zq15 (by decide) ?_)
        skip
        refine zc_one_val (i := 14) (fun _ => by first | assumption | (repeat (first | exact BOwn.nil _ | refine BOwn.cons zq5 ?_))) zq36 rfl zq26 rfl rfl (zv_append rfl (el_of rfl) (un_sl rfl) rfl (by simp) rfl (by simp; omega) fun t2 ht2 ht20 => ?_)
        rw [St.setT_back ht]
        refine zc_take0 (i := 15) rfl zq36 zq36 zq36 zq36 zq26 rfl rfl (ZPure0.pure (zp_assign rfl rfl)) ?_
        refine zc_end (fun _ => by first | assumption | (repeat (first | exact BOwn.nil _ | refine BOwn.cons zq5 ?_))) zq36 ?_
        exact ⟨_, ⟨kk ++ [b], t2, by simp; omega, (by rw [bytesD_append]), hS.setT t2⟩, zq21, zq21⟩
      · refine zoneC_op (i := 13) (fun _ => by first | assumption | (repeat (first | exact BOwn.nil _ | refine BOwn.cons zq5 ?_))) rfl zq26 ?_
        refine ZVal.op rfl (by decide) (zv_litR (xs := [.tmp 51]) _ rfl rfl rfl zq34 zq32 zq28 zq31 (by decide) ?_)
        skip
        refine zc_one (i := 6) (fun _ => by first | assumption | (repeat (first | exact BOwn.nil _ | refine BOwn.cons zq5 ?_))) zq36 rfl zq26 (zop_callU key_snd Try.func54 zq36 rfl rfl rfl (by decide) rfl rfl (Ups.refl _) ?_)
        refine ⟨_, _, rfl, by omega, by omega, fun kk t hl1 hl2 ht ht0 => ?_⟩
        refine zc_one_val (i := 14) (fun _ => by first | assumption | (repeat (first | exact BOwn.nil _ | refine BOwn.cons zq5 ?_))) zq36 rfl zq26 rfl rfl (zv_append rfl (el_of rfl) (un_sl rfl) rfl (by simp) rfl (by simp; omega) fun t2 ht2 ht20 => ?_)
        rw [St.setT_back ht]
        refine zc_take0 (i := 15) rfl zq36 zq36 zq36 zq36 zq26 rfl rfl (ZPure0.pure (zp_assign rfl rfl)) ?_
        refine zc_end (fun _ => by first | assumption | (repeat (first | exact BOwn.nil _ | refine BOwn.cons zq5 ?_))) zq36 ?_
        exact ⟨_, ⟨kk ++ [b], t2, by simp; omega, (by rw [bytesD_append]), hS.setT t2⟩, zq21, zq21⟩
    rintro e s ⟨kk, t, hkk, rfl, hS⟩
    refine zr_as 9 (.row (bytesD kk) 1 0) rfl zq2 ?_
    (repeat (first | ((with_reducible apply zr_seq)) | ((with_reducible apply zr_region); (try simp only [List.append_eq, List.cons_append, List.nil_append])) | ((with_reducible apply zo_end)) | ((with_reducible apply zo_endB)) | ((with_reducible apply zs_move); (exact rfl); (exact rfl)) | ((with_reducible apply zs_assign); (exact rfl); (exact rfl)) | ((with_reducible apply zs_add); (exact rfl); (exact rfl); (exact rfl); (first | (with_reducible assumption) | exact wrap_in64 (by omega) (by omega))) | ((with_reducible apply zs_lenB); (exact rfl); (exact rfl); (exact un_sl rfl)) | ((with_reducible apply zs_field_ref); (exact rfl); (exact rfl); (exact fld_of rfl)) | ((with_reducible apply zs_load_ref); (exact rfl); (exact rfl); (exact sh_of rfl); (exact rfl)) | ((with_reducible apply zs_cutBhi); (exact rfl); (exact rfl); (exact un_sl rfl); (exact ii_of rfl); (exact rfl); (first | omega | (simp only [List.length_map, List.length_take, List.length_drop, List.length_append, List.length_cons, List.length_nil, List.length_replicate, rowR_length, intR_length, msgR_length, pairR_length]; omega) | decide); (first | omega | (simp only [List.length_map, List.length_take, List.length_drop, List.length_append, List.length_cons, List.length_nil, List.length_replicate, rowR_length, intR_length, msgR_length, pairR_length]; omega) | decide); (first | (with_reducible exact Int.toNat_natCast _) | (simp only [Int.reduceToNat]; exact rfl) | exact rfl)) | ((with_reducible apply (zs_callQ putk_pf cl_65)); (exact rfl); (exact rfl); ((repeat (first | exact DLes.nil | (apply DLes.cons; first | exact DLe.refl _ | exact DLe.nilB | exact DLe.nilR | exact DLe.nilI | exact dle_mnone | exact dle_nnone | exact dle_awC | exact dle_awM | exact dle_awS | exact dle_awL)))); (first | exact trivial | assumption | ((repeat' (with_reducible refine And.intro ?_ ?_)) <;> first | assumption | omega | exact trivial | (simp; done) | (simp; omega)))) | ((with_reducible apply zs_min); (exact rfl); (exact rfl); (exact rfl); (first | (with_reducible assumption) | exact rfl))))
    exact ⟨m - 1, _, by omega, ⟨i + 1, putL ks (kk.take (min (kk.length : Int) c.keyMax).toNat), by omega, rfl, hS, by have := putL_len ks (kk.take (min (kk.length : Int) c.keyMax).toNat); omega, by have := putL_len ks (kk.take (min (kk.length : Int) c.keyMax).toNat); omega, fun k hk => by
      rcases putL_mem hk with h | rfl
      · exact hs4 _ h
      · rw [List.length_take]; omega⟩, zq21, zq21⟩
  · (repeat (first | ((with_reducible apply zr_seq)) | ((with_reducible apply zr_region); (try simp only [List.append_eq, List.cons_append, List.nil_append])) | ((with_reducible apply zo_end)) | ((with_reducible apply zs_move); (exact rfl); (exact rfl)) | ((with_reducible apply zs_lss); (exact rfl); (exact rfl); (exact rfl)) | ((with_reducible apply zs_len); (exact rfl); (exact rfl); (exact un_sl rfl)) | ((with_reducible apply zs_and); (exact rfl); (exact rfl); (intro hp_; first | exact congrArg some (gd_t hp_) | exact rfl); (exact rfl)) | ((with_reducible apply (zs_h_move [])); (exact rfl); (first | exact GC.t rfl rfl | exact GC.f rfl rfl | exact GC.gt rfl rfl | exact GC.gf rfl rfl); (exact rfl); (intro hc_; first | exact congrArg some (gd_t hc_) | exact congrArg some (gd_t (band_l hc_)) | exact congrArg some (gd_t (band_l (band_l hc_))) | exact rfl)) | ((with_reducible apply (zs_h_lss [])); (exact rfl); (first | exact GC.t rfl rfl | exact GC.f rfl rfl | exact GC.gt rfl rfl | exact GC.gf rfl rfl); (exact rfl); (intro hc_; first | exact congrArg some (gd_t hc_) | exact congrArg some (gd_t (band_l hc_)) | exact congrArg some (gd_t (band_l (band_l hc_))) | exact rfl); (intro hc_; first | exact congrArg some (gd_t hc_) | exact congrArg some (gd_t (band_l hc_)) | exact congrArg some (gd_t (band_l (band_l hc_))) | exact rfl)) | ((with_reducible apply (zs_h_len [])); (exact rfl); (first | exact GC.t rfl rfl | exact GC.f rfl rfl | exact GC.gt rfl rfl | exact GC.gf rfl rfl); (exact rfl); (exact un_sl rfl); (intro hc_; first | exact congrArg some (gd_t hc_) | exact congrArg some (gd_t (band_l hc_)) | exact congrArg some (gd_t (band_l (band_l hc_))) | exact rfl))))
    (first | refine zr_cond rfl (fun h2 => ?_) (fun h2 => ?_) | refine zs_split rfl rfl (fun h2 => ?_) (fun h2 => ?_)) <;> have h2' := h2 <;> (try simp only [decide_eq_true_eq, decide_eq_false_iff_not, Bool.and_eq_true, Bool.or_eq_true, Bool.and_eq_false_iff, Bool.or_eq_false_iff, Bool.not_eq_true', Bool.not_eq_false', Bool.not_eq_true, Bool.not_eq_false, Int.not_le, Int.not_lt, Classical.not_not, Decidable.not_not, ne_eq, beq_iff_eq, bne_iff_ne] at h2')
    · exact absurd h2' (by intro h; exact hgo (by simpa using h2))
    (repeat (first | ((with_reducible apply (zs_sstore (i := 0))); (exact rfl); (exact rfl); (exact sh_of rfl); (assumption); (exact rfl); (first | exact rfl | (simp [cells_orow])); ((try rw [cells_orow]); (repeat (first | exact one_nil | (apply one_cons; (first | exact rfl | exact one_orow _ _ _))))); (first | exact Nat.le_of_ble_eq_true rfl | omega | (focus (simp [cellsD, msgD, nodeD, pairD, cfgD, rdD]; done))); (first | (simp only [cells_orow, cD_int, cD_bool, cD_float, cD_nil, cD_ptr0, cD_str, cD_row, cD_mrow, cD_ptr, cD_ref, cD_fn, cD_agg, List.take_zero, List.take_succ_cons, List.take_nil, List.drop_succ_cons, List.drop_zero, List.drop_nil, List.nil_append, List.cons_append, List.append_nil, Nat.zero_add, Nat.reduceAdd]; exact rfl) | exact rfl); (intro sS hS); (try simp only [List.set_cons_zero, List.set_cons_succ] at hS)) | ((with_reducible apply zr_seq)) | ((with_reducible apply zr_region); (try simp only [List.append_eq, List.cons_append, List.nil_append])) | ((with_reducible apply zo_end)) | ((with_reducible apply zs_move); (exact rfl); (exact rfl)) | ((with_reducible apply zs_assign); (exact rfl); (exact rfl)) | ((with_reducible apply zr_cond_t); (exact rfl); (first | assumption | exact rfl)) | ((with_reducible apply zr_block)) | (with_reducible refine zr_exit ?_; simp only [Zthen, Zblock, ↓reduceIte]) | ((with_reducible apply zs_field_ptr); (exact rfl); (exact rfl); (exact fld_of rfl)) | ((with_reducible apply zs_load_ptr); (exact rfl); (exact rfl); (exact sh_of rfl); (first | assumption | exact St.setH_self _ _ _ | exact Sep.at_ (i := 0) zq35 rfl | exact Sep.at_ (i := 1) zq35 rfl | exact Sep.at_ (i := 2) zq35 rfl | exact Sep.at_ (i := 3) zq35 rfl | exact Sep.at_ (i := 4) zq35 rfl | exact Sep.at_ (i := 5) zq35 rfl | exact Sep.at_ (i := 6) zq35 rfl); (first | exact rfl | assumption))))
    replace hS : Zm.Sep st sS [(some a5, [.v (.bool true), .row (rowR ks) 1 0, .v (.slice none 0 0), .v (.slice none 0 0), .v (.slice none 0 0)]), (some a4, zeroN)] := hS
    replace hS := hS.addNone []
    refine zr_loopK [1, 2, 4, 5, 7] (fun m e s => ∃ (i : Nat) (vs : List Bs) (o : Option Nat) (q : Nat) (f : List D), m + i = ks.length ∧ e = [(10, .v (.int .i64 (i : Nat)))] ∧ Zm.Sep st s [(o, f), (some a5, [.v (.bool true), .row (rowR ks) 1 0, orow o vs.length q, .v (.slice none 0 0), .v (.slice none 0 0)]), (some a4, zeroN)] ∧ GRow o f 1 vs.length q (rowR vs).flatten ∧ vs.length = i ∧ ∀ v ∈ vs, v.length ≤ 1000001) ks.length _ zq19 ⟨0, [], none, 0, [], by simp, rfl, hS, GRow.empty 1, rfl, by simp⟩ zq21 ?_
    clear hm h2 h2' hgo
    rintro m e s ⟨i, vs, o, q, f, hm, rfl, hS, hg, hvi, hvb⟩
    (repeat (first | ((with_reducible apply zr_seq)) | ((with_reducible apply zr_region); (try simp only [List.append_eq, List.cons_append, List.nil_append])) | ((with_reducible apply zo_end)) | ((with_reducible apply zs_move); (exact rfl); (exact rfl)) | ((with_reducible apply zs_lss); (exact rfl); (exact rfl); (exact rfl)) | ((with_reducible apply zs_len); (exact rfl); (exact rfl); (exact un_sl rfl))))
    (first | refine zr_cond rfl (fun h3 => ?_) (fun h3 => ?_) | refine zs_split rfl rfl (fun h3 => ?_) (fun h3 => ?_)) <;> have h3' := h3 <;> (try simp only [decide_eq_true_eq, decide_eq_false_iff_not, Bool.and_eq_true, Bool.or_eq_true, Bool.and_eq_false_iff, Bool.or_eq_false_iff, Bool.not_eq_true', Bool.not_eq_false', Bool.not_eq_true, Bool.not_eq_false, Int.not_le, Int.not_lt, Classical.not_not, Decidable.not_not, ne_eq, beq_iff_eq, bne_iff_ne] at h3')
    · have hw1 : IntKind.i64.wrap ((i : Int) + ((intR l).length : Nat)) = (i : Int) + ((intR l).length : Nat) := wrap_in64 (by omega) (by omega)
      obtain ⟨x, hx⟩ : ∃ x : Nat, ((i : Int) + ((intR l).length : Nat)).tmod (c.valMax + 1) = (x : Int) := ⟨(((i : Int) + ((intR l).length : Nat)).tmod (c.valMax + 1)).toNat, by
        have := Int.tmod_nonneg (c.valMax + 1) (show 0 ≤ (i : Int) + ((intR l).length : Nat) by omega); omega⟩
      have hx2 : (x : Int) < c.valMax + 1 := by
        have := Int.tmod_lt_of_pos ((i : Int) + ((intR l).length : Nat)) (show (0 : Int) < c.valMax + 1 by omega)
        omega
      (repeat (first | ((with_reducible apply zr_seq)) | ((with_reducible apply zr_block)) | ((with_reducible apply zr_skip'))))
      refine zc_begin (m := 15) ([(a5, [.v (.bool true), .row (rowR ks) 1 0, orow o vs.length q, .v (.slice none 0 0), .v (.slice none 0 0)])]) [14] zq36 rfl ?_
      refine zc_take0 (i := 0) rfl zq36 zq36 zq36 zq36 zq26 rfl rfl zq18 ?_
      refine zc_take (i := 1) rfl zq36 zq36 zq36 zq36 zq36 zq36 zq26 rfl rfl (zpb_load rfl zq33 rfl (.head _) rfl zq29) ?_
      refine zc_take0 (i := 2) rfl zq36 zq36 zq36 zq36 zq26 rfl rfl (ZPure0.pure (zp_move rfl rfl)) ?_
      refine zc_take0 (i := 3) rfl zq36 zq36 zq36 zq36 zq26 rfl rfl (ZPure0.pure (zp_move rfl rfl)) ?_
      refine zc_take0 (i := 4) rfl zq36 zq36 zq36 zq36 zq26 rfl rfl zq8 ?_
      refine zc_take0 (i := 5) rfl zq36 zq36 zq36 zq36 zq26 rfl rfl (ZPure0.pure (zp_add rfl rfl rfl zq27)) ?_
      refine zc_take0 (i := 6) rfl zq36 zq36 zq36 zq36 zq26 rfl rfl zq18 ?_
      refine zc_take0 (i := 7) rfl zq36 zq36 zq36 zq36 zq26 rfl rfl (zp_load_ref rfl zq33 rfl rfl) ?_
      refine zc_take0 (i := 8) rfl zq36 zq36 zq36 zq36 zq26 rfl rfl (ZPure0.pure (zp_add rfl rfl rfl zq27)) ?_
      skip
      refine zc_take0 (i := 9) rfl zq36 zq36 zq36 zq36 zq26 rfl rfl (ZPure0.pure (zp_rem rfl rfl rfl (by omega) hx)) ?_
      skip
      refine zc_one_val (i := 10) (fun _ => by first | assumption | (repeat (first | exact BOwn.nil _ | refine BOwn.cons zq5 ?_))) zq36 rfl zq26 rfl rfl (zv_make0 (e := 5) rfl zq32 zq31 zq34 rfl rfl (by omega) (by omega) (by omega) ?_)
      refine zc_one_val (i := 11) (fun _ => by first | assumption | (repeat (first | exact BOwn.nil _ | refine BOwn.cons zq5 ?_))) zq36 rfl zq26 rfl rfl (zv_litR (xs := [.tmp 84]) _ rfl rfl rfl zq34 zq32 zq28 zq15 (by decide) ?_)
      refine zc_one_val (i := 12) (fun _ => by first | assumption | (repeat (first | exact BOwn.nil _ | refine BOwn.cons zq5 ?_))) zq36 rfl zq26 rfl rfl (zv_sappR (i := 0) rfl rfl rfl zq34 zq32 zq31 zq35 rfl zq35 zq10 (fun o1 c1 f1 sS hS hg => ?_))
      (try simp only [List.set_cons_zero, List.set_cons_succ] at hS)
      refine zc_take0 (i := 13) rfl zq36 zq36 zq36 zq36 zq26 rfl rfl zq18 ?_
      refine zc_one (i := 14) (fun _ => by first | assumption | (repeat (first | exact BOwn.nil _ | refine BOwn.cons zq5 ?_))) zq36 rfl zq26 (zop_sstore (i := 1) rfl rfl rfl rfl zq33 zq35 rfl zq30 zq20 zq24 zq4 fun sS hS => ?_)
      (try simp only [List.set_cons_zero, List.set_cons_succ] at hS)
      refine zc_endB (fun hcl_ => absurd hcl_ (by decide)) zq36 ?_
      (repeat (first | ((with_reducible apply zr_region); (try simp only [List.append_eq, List.cons_append, List.nil_append])) | ((with_reducible apply zo_end)) | ((with_reducible apply zs_move); (exact rfl); (exact rfl)) | ((with_reducible apply zs_assign); (exact rfl); (exact rfl)) | ((with_reducible apply zs_add); (exact rfl); (exact rfl); (exact rfl); (first | (with_reducible assumption) | exact wrap_in64 (by omega) (by omega)))))
      have hz : List.replicate ((x : Nat) : Int).toNat [D.v (.int .u8 0)] = bytesD (List.replicate x 0) := by simp [bytesD]
      rw [hz] at hS hg
      exact ⟨m - 1, _, by omega, ⟨i + 1, vs ++ [List.replicate x 0], _, _, _, by omega, rfl, by rw [List.length_append]; exact hS, by rw [rowR_append, List.flatten_append, List.length_append]; exact hg, by rw [List.length_append, hvi]; rfl, forall_snoc hvb (by rw [List.length_replicate]; omega)⟩, zq21, zq21⟩
    have hi : i = ks.length := by simp only [rowR_length] at h3'; omega
    refine zr_freezeK (id := a5) [4, 5] (hS.at_ (i := 1) rfl) zq11 rfl ?_
    replace hS := hS.drop (i := 1) rfl
    simp only [List.eraseIdx_cons_succ, List.eraseIdx_cons_zero] at hS
    refine zr_sfz (env1 := _) 0 [4, 5] (rowR vs) (by decide) hS rfl hg rfl (rowR_one _) (fzd_cons rfl .same (fzd_cons rfl (DFz.ref (.cons .same (.cons .same (.cons .row (.cons (DFz.nilrow (k := 1)) (.cons (DFz.nilrow (k := 3)) .nil)))))) fzd_nil)) fun sS hS => ?_
    simp only [List.eraseIdx_cons_succ, List.eraseIdx_cons_zero] at hS
    have hnd : [D.v (.bool true), .row (rowR ks) 1 0, .row (rowR vs) 1 0, .row [] 1 0, .row [] 3 0] = nodeD ⟨true, ks, vs, [], []⟩ := rfl
    rw [hnd]
    (repeat (first | ((with_reducible apply (zs_sstore (i := 0))); (exact rfl); (exact rfl); (exact sh_of rfl); (assumption); (exact rfl); (first | exact rfl | (simp [cells_orow])); ((try rw [cells_orow]); (repeat (first | exact one_nil | (apply one_cons; (first | exact rfl | exact one_orow _ _ _))))); (first | exact Nat.le_of_ble_eq_true rfl | omega | (focus (simp [cellsD, msgD, nodeD, pairD, cfgD, rdD]; done))); (first | (simp only [cells_orow, cD_int, cD_bool, cD_float, cD_nil, cD_ptr0, cD_str, cD_row, cD_mrow, cD_ptr, cD_ref, cD_fn, cD_agg, List.take_zero, List.take_succ_cons, List.take_nil, List.drop_succ_cons, List.drop_zero, List.drop_nil, List.nil_append, List.cons_append, List.append_nil, Nat.zero_add, Nat.reduceAdd]; exact rfl) | exact rfl); (intro sS hS); (try simp only [List.set_cons_zero, List.set_cons_succ] at hS)) | ((with_reducible apply zr_seq)) | ((with_reducible apply zr_region); (try simp only [List.append_eq, List.cons_append, List.nil_append])) | ((with_reducible apply zo_end)) | (with_reducible refine zr_exit ?_; simp only [Zthen, Zblock, ↓reduceIte]) | ((with_reducible apply zs_load_refAll); (exact rfl); (exact rfl); (exact sh_of rfl); (exact rfl)) | ((with_reducible apply zr_retZ); (exact rfl); (repeat (first | exact resD_nil _ _ _ | ((with_reducible apply resD_tmp); (exact rfl)) | ((with_reducible apply resD_cell_agg); (exact rfl); (exact sh_of rfl); (first | assumption | exact St.setH_self _ _ _ | exact Sep.at_ (i := 0) zq35 rfl | exact Sep.at_ (i := 1) zq35 rfl | exact Sep.at_ (i := 2) zq35 rfl | exact Sep.at_ (i := 3) zq35 rfl | exact Sep.at_ (i := 4) zq35 rfl | exact Sep.at_ (i := 5) zq35 rfl | exact Sep.at_ (i := 6) zq35 rfl); (exact rfl)) | ((with_reducible apply resD_cell); (exact rfl); (exact sh_of rfl); (first | assumption | exact St.setH_self _ _ _ | exact Sep.at_ (i := 0) zq35 rfl | exact Sep.at_ (i := 1) zq35 rfl | exact Sep.at_ (i := 2) zq35 rfl | exact Sep.at_ (i := 3) zq35 rfl | exact Sep.at_ (i := 4) zq35 rfl | exact Sep.at_ (i := 5) zq35 rfl | exact Sep.at_ (i := 6) zq35 rfl); (exact rfl)))); (simp only [resOf]))))
    exact KE.mk _ hS.ext (hK _ ⟨_, rfl, ⟨⟨by simp only; omega, by simp only; omega, by simp, by simp, by simp⟩, fun k hk => by have := (hs4 k hk).1; omega, fun k hk => by have := hvb k hk; omega⟩⟩)
end Go.Proofs.ZtLe
