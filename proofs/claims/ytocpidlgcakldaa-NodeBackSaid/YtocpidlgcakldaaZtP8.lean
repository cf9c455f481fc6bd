/- A part of the proof of NodeBack: walks of the functions that it reaches. No condition. -/
import Derived.Test.YtocpidlgcakldaaZtInP
import Derived.Test.YtocpidlgcakldaaZmAuto
import Derived.Test.YtocpidlgcakldaaZtP5
namespace Go.Proofs.ZtLe
open Go.RowKit Go.Proofs Go.Proofs.Zm
set_option linter.unusedVariables false
set_option linter.unusedSimpArgs false
set_option maxHeartbeats 20000000
set_option maxRecDepth 100000
attribute [local irreducible] ZWp ZOps ZPure ZPure0 ZVal ZOp SoundF

theorem u8_of (z : Int) : ∃ b : UInt8, IntKind.u8.wrap z = ((b.toNat : Nat) : Int) := by
  have h : 0 ≤ IntKind.u8.wrap z ∧ IntKind.u8.wrap z < 256 := by simp [IntKind.wrap, IntKind.bits, IntKind.signed]; omega
  refine ⟨UInt8.ofNat (IntKind.u8.wrap z).toNat, ?_⟩
  rw [UInt8.toNat_ofNat_of_lt' (by show _ < 256; omega)]
  omega
/-! ### dumbwaiterlaw18.Node, of an odd number of numbers -/
def kidsN (N j : Nat) : List Int := (List.range j).map fun (i : Nat) => (i : Int) * 7 + N + 1
theorem kidsN_succ (N j : Nat) : kidsN N (j + 1) = kidsN N j ++ [(j : Int) * 7 + N + 1] := by unfold kidsN; rw [List.range_succ, List.map_append]; rfl
theorem kidsN_length (N j : Nat) : (kidsN N j).length = j := by simp [kidsN]
structure InnerV (c : CfgV) (N : Nat) (n : NodeV) : Prop where
  leaf : n.leaf = false
  srt : Srt n.keys
  klen : (n.keys.length : Int) ≤ c.f - 1
  kb : ∀ k ∈ n.keys, k.length ≤ 3 ∧ (k.length : Int) ≤ c.keyMax
  vals : n.vals = []
  kids : n.kids = kidsN N (n.keys.length + 1)
  mlen : (n.msgs.length : Int) ≤ c.m
  msg : ∀ m ∈ n.msgs, m.1 ≠ 0 ∧ ∃ v : Bs, v.length = 2 ∧ MsgS c v m
structure NodeC (c : CfgV) : Prop where
  key : 0 ≤ c.keyMax ∧ c.keyMax ≤ 1000000
  val : 0 ≤ c.valMax ∧ c.valMax ≤ 1000000
  f : 1 ≤ c.f ∧ c.f ≤ 1000000
  m : 0 ≤ c.m ∧ c.m ≤ 1000000
def nodeSpec : ZSpec := fun args st K => ∃ (c : CfgV) (l : List Int) (tl : Nat), args = [.agg (cfgD c), .row (intR l) 1 tl] ∧ l.length % 2 = 1 ∧ l.length ≤ 140737488355328 ∧ NodeC c ∧
  ∀ n, InnerV c l.length n → ∀ o4 c4 f4 o3 c3 f3 st', Sep st st' [(o3, f3), (o4, f4)] → GRow o4 f4 1 n.kids.length c4 (intR n.kids).flatten → GRow o3 f3 3 n.msgs.length c3 (msgR n.msgs).flatten →
    K (.agg [.v (.bool false), .row (rowR n.keys) 1 0, .v (.slice none 0 0), orow o4 n.kids.length c4, orow o3 n.msgs.length c3]) st'
theorem node_own : SoundF Try.prog 28 nodeSpec := by
  refine sound_ofA Try.func28 rfl Try.results28 ?_
  rintro w0 args st K ⟨c, l, tl, rfl, hodd, hl, hc, hK⟩
  rw [Try.ntmps28]; refine ⟨by simp, ?_⟩
  have hS := Sep.nil st
  obtain ⟨hk1, hk2⟩ := hc.key
  obtain ⟨hv1, hv2⟩ := hc.val
  obtain ⟨hf1, hf2⟩ := hc.f
  obtain ⟨hm1, hm2⟩ := hc.m
  have hr0 : (intR l).length = l.length := intR_length _
  have hd : decide ((((intR l).length : Nat) : Int) % 2 = 0) = false := decide_eq_false (by omega)
  (repeat (first | ((with_reducible apply (zs_sstore (i := 0))); (exact rfl); (exact rfl); (exact sh_of rfl); (assumption); (exact rfl); (first | exact rfl | (simp [cells_orow])); ((try rw [cells_orow]); (repeat (first | exact one_nil | (apply one_cons; (first | exact rfl | exact one_orow _ _ _))))); (first | exact Nat.le_of_ble_eq_true rfl | omega | (focus (simp [cellsD, msgD, nodeD, pairD, cfgD]; done))); (first | (simp only [cells_orow, cD_int, cD_bool, cD_float, cD_nil, cD_ptr0, cD_str, cD_row, cD_mrow, cD_ptr, cD_ref, cD_fn, cD_agg, List.take_zero, List.take_succ_cons, List.take_nil, List.drop_succ_cons, List.drop_zero, List.drop_nil, List.nil_append, List.cons_append, List.append_nil, Nat.zero_add, Nat.reduceAdd]; exact rfl) | exact rfl); (intro sS hS); (try simp only [List.set_cons_zero, List.set_cons_succ] at hS)) | ((with_reducible apply zr_seq)) | ((with_reducible apply zr_region); (try simp only [List.append_eq, List.cons_append, List.nil_append])) | ((with_reducible apply zo_end)) | ((with_reducible apply zs_move); (exact rfl); (exact rfl)) | ((with_reducible apply zs_assign); (exact rfl); (exact rfl)) | ((with_reducible apply zs_eql); (exact rfl); (exact rfl); (exact rfl)) | ((with_reducible apply zs_not); (exact rfl); (exact rfl)) | ((with_reducible apply zs_len); (exact rfl); (exact rfl); (exact un_sl rfl)) | ((with_reducible apply zs_field_ptr); (exact rfl); (exact rfl); (exact fld_of rfl)) | ((with_reducible apply zs_field_ref); (exact rfl); (exact rfl); (exact fld_of rfl)) | ((with_reducible apply zs_load_ref); (exact rfl); (exact rfl); (exact sh_of rfl); (exact rfl)) | ((with_reducible apply zs_load_ptr); (exact rfl); (exact rfl); (exact sh_of rfl); (first | assumption | exact St.setH_self _ _ _ | exact Sep.at_ (i := 0) zq35 rfl | exact Sep.at_ (i := 1) zq35 rfl | exact Sep.at_ (i := 2) zq35 rfl | exact Sep.at_ (i := 3) zq35 rfl | exact Sep.at_ (i := 4) zq35 rfl | exact Sep.at_ (i := 5) zq35 rfl | exact Sep.at_ (i := 6) zq35 rfl); (first | exact rfl | assumption)) | ((with_reducible apply zs_build); (exact rfl); (exact el_of rfl); (exact st_of rfl); (exact rfl); (first | (simp only [fillD, cellsD, cells_orow, List.take_zero, List.take_succ_cons, List.take_nil, List.drop_succ_cons, List.drop_zero, List.drop_nil, List.nil_append, List.cons_append, List.append_nil, Nat.zero_add, Nat.reduceAdd, List.length_cons, List.length_nil]; exact rfl) | ((repeat (apply fillD_cons; exact rfl; (first | exact rfl | simp [cells_orow]); (exact Nat.le_of_ble_eq_true rfl); (simp only [cells_orow, cD_int, cD_bool, cD_float, cD_nil, cD_ptr0, cD_str, cD_row, cD_mrow, cD_ptr, cD_ref, cD_fn, cD_agg, List.take_zero, List.take_succ_cons, List.take_nil, List.drop_succ_cons, List.drop_zero, List.drop_nil, List.nil_append, List.cons_append, List.append_nil, Nat.zero_add, Nat.reduceAdd]; exact rfl))); exact rfl) | exact rfl)) | ((with_reducible apply (zs_mask (p := 2) 1)); (exact rfl); (exact rfl); (exact rfl); (exact rfl); (decide); (decide); (decide)) | ((with_reducible apply (zs_boxRef (t := 2))); (exact rfl); (exact rfl)) | ((with_reducible apply (zs_salloc (t := 4))); (exact rfl); (exact el_of rfl); (simp [oneD, Value.oneCell']); (assumption); (intro a4 sS hS)) | ((with_reducible apply (zs_salloc (t := 5))); (exact rfl); (exact el_of rfl); (simp [oneD, Value.oneCell']); (assumption); (intro a5 sS hS))))
  rw [hd] at hS
  (first | refine zr_cond rfl (fun h1 => ?_) (fun h1 => ?_) | refine zs_split rfl rfl (fun h1 => ?_) (fun h1 => ?_)) <;> have h1' := h1 <;> (try simp only [decide_eq_true_eq, decide_eq_false_iff_not, Bool.and_eq_true, Bool.or_eq_true, Bool.and_eq_false_iff, Bool.or_eq_false_iff, Bool.not_eq_true', Bool.not_eq_false', Bool.not_eq_true, Bool.not_eq_false, Int.not_le, Int.not_lt, Classical.not_not, Decidable.not_not, ne_eq, beq_iff_eq, bne_iff_ne] at h1')
  · (repeat (first | ((with_reducible apply zr_seq)) | ((with_reducible apply zr_region); (try simp only [List.append_eq, List.cons_append, List.nil_append])) | ((with_reducible apply zo_end)) | ((with_reducible apply zs_assign); (exact rfl); (exact rfl)) | ((with_reducible apply zs_sub); (exact rfl); (exact rfl); (exact rfl); (first | (with_reducible assumption) | exact wrap_in64 (by omega) (by omega))) | ((with_reducible apply zr_block)) | ((with_reducible apply zs_field_ref); (exact rfl); (exact rfl); (exact fld_of rfl)) | ((with_reducible apply zs_load_ref); (exact rfl); (exact rfl); (exact sh_of rfl); (exact rfl))))
    refine zr_as 7 (.row (rowR []) 1 0) rfl zq7 ?_
    refine zr_loopK [1, 2, 4, 5, 6] (fun m e s => ∃ i ks, m + i = l.length ∧ e = [(7, .row (rowR ks) 1 0), (8, .v (.int .i64 (i : Nat)))] ∧ Zm.Sep st s [(some a5, zeroN), (some a4, zeroN)] ∧ Srt ks ∧ ks.length ≤ i ∧ (ks.length : Int) ≤ c.f - 1 ∧ ∀ k ∈ ks, k.length ≤ 3 ∧ (k.length : Int) ≤ c.keyMax) l.length _ zq19 ⟨0, [], by simp, rfl, hS, Srt.nil, by simp, by simp; omega, by simp⟩ zq21 ?_
    rintro m e s ⟨i, ks, hm, rfl, hS, hs1, hs2, hs3, hs4⟩
    have hr1 : (rowR ks).length = ks.length := rowR_length _
    by_cases hgo : i < l.length ∧ (ks.length : Int) < c.f - 1
    · have hi1 : decide ((i : Int) < ((intR l).length : Int)) = true := decide_eq_true (by omega)
      have hi2 : decide (((rowR ks).length : Int) < c.f - 1) = true := decide_eq_true (by omega)
      (repeat (first | ((with_reducible apply zr_seq)) | ((with_reducible apply zr_region); (try simp only [List.append_eq, List.cons_append, List.nil_append])) | ((with_reducible apply zo_end)) | ((with_reducible apply zs_yes); (exact rfl); (exact rfl); (first | assumption | exact rfl)) | ((with_reducible apply zs_move); (exact rfl); (exact rfl)) | ((with_reducible apply zs_lss); (exact rfl); (exact rfl); (exact rfl)) | ((with_reducible apply zs_pick_t); (exact rfl); (exact rfl); (first | assumption | exact rfl); (exact rfl)) | ((with_reducible apply zs_len); (exact rfl); (exact rfl); (exact un_sl rfl)) | ((with_reducible apply zr_cond_t); (exact rfl); (first | assumption | exact rfl)) | ((with_reducible apply zr_block)) | ((with_reducible apply zr_skip'))))
      refine zr_cutK [1, 2, 4, 5, 6, 7, 8, 9] (fun e s => ∃ (kk : Bs) (t : Nat), kk.length ≤ 3 ∧ e = [(9, .row (bytesD kk) 1 t)] ∧ Zm.Sep st s [(some a5, zeroN), (some a4, zeroN)]) zq19 ?_ ?_
      · obtain ⟨x, hx, hxt, _, hxg⟩ := eltI (l := l) (i := i) (by omega)
        obtain ⟨b, hb⟩ := u8_of (x / 8)
        refine zc_begin (m := 16) ([]) [] zq36 rfl ?_
        refine zc_take0 (i := 0) rfl zq36 zq36 zq36 zq36 zq26 rfl rfl (ZPure0.pure (zp_move rfl rfl)) ?_
        refine zc_take0 (i := 1) rfl zq36 zq36 zq36 zq36 zq26 rfl rfl (ZPure0.pure (zp_move rfl rfl)) ?_
        refine zc_take0 (i := 2) rfl zq36 zq36 zq36 zq36 zq26 rfl rfl zq0 ?_
        refine zc_take0 (i := 3) rfl zq36 zq36 zq36 zq36 zq26 rfl rfl (zp_load_ref rfl zq33 rfl rfl) ?_
        refine zc_take0 (i := 4) rfl zq36 zq36 zq36 zq36 zq26 rfl rfl zq18 ?_
        refine zc_take0 (i := 5) rfl zq36 zq36 zq36 zq36 zq26 rfl rfl (zp_load_ref rfl zq33 rfl rfl) ?_
        refine zc_take0 (i := 7) rfl zq36 zq36 zq36 zq36 zq26 rfl rfl (ZPure0.pure (zp_move rfl rfl)) ?_
        refine zc_take0 (i := 8) rfl zq36 zq36 zq36 zq36 zq26 rfl rfl (ZPure0.pure (zp_move rfl rfl)) ?_
        refine zc_take0 (i := 9) rfl zq36 zq36 zq36 zq36 zq26 rfl rfl zq0 ?_
        refine zc_take0 (i := 10) rfl zq36 zq36 zq36 zq36 zq26 rfl rfl (zp_load_ref rfl zq33 rfl rfl) ?_
        refine zc_take0 (i := 11) rfl zq36 zq36 zq36 zq36 zq26 rfl rfl (ZPure0.pure (zp_shrI (p := 8) rfl rfl (by decide) rfl (by decide))) ?_
        refine zc_take0 (i := 12) rfl zq36 zq36 zq36 zq36 zq26 rfl rfl (ZPure0.pure (zp_conv rfl rfl (by exact un_int rfl) (by exact un_int rfl) zq22)) ?_
        skip
        refine zc_all2 (i := 6) (j := 13) (fun _ => by first | assumption | (repeat (first | exact BOwn.nil _ | refine BOwn.cons zq5 ?_))) zq36 ?_ ?_
        · refine zoneC_op (i := 6) (fun _ => by first | assumption | (repeat (first | exact BOwn.nil _ | refine BOwn.cons zq5 ?_))) rfl zq26 ?_
          refine zop_callU key_snd Try.func54 zq36 rfl rfl rfl (by decide) rfl rfl (Ups.refl _) ?_
          refine ⟨_, _, rfl, by omega, by omega, fun kk t hl1 hl2 ht ht0 => ?_⟩
          refine zc_one_val (i := 13) (fun _ => by first | assumption | (repeat (first | exact BOwn.nil _ | refine BOwn.cons zq5 ?_))) zq36 rfl zq26 rfl rfl (zv_litR (xs := [.tmp 51]) _ rfl rfl rfl zq34 zq32 zq28 zq15 (by decide) ?_)
          skip
          refine zc_one_val (i := 14) (fun _ => by first | assumption | (repeat (first | exact BOwn.nil _ | refine BOwn.cons zq5 ?_))) zq36 rfl zq26 rfl rfl (zv_append rfl (el_of rfl) (un_sl rfl) rfl (by simp) rfl (by simp; omega) fun t2 ht2 ht20 => ?_)
          rw [St.setT_back ht]
          refine zc_take0 (i := 15) rfl zq36 zq36 zq36 zq36 zq26 rfl rfl (ZPure0.pure (zp_assign rfl rfl)) ?_
          refine zc_end (fun _ => by first | assumption | (repeat (first | exact BOwn.nil _ | refine BOwn.cons zq5 ?_))) zq36 ?_
          exact ⟨_, ⟨kk ++ [b], t2, by simp; omega, (by rw [bytesD_append]), hS.setT t2⟩, zq21, zq21⟩
        · refine zoneC_op (i := 13) (fun _ => by first | assumption | (repeat (first | exact BOwn.nil _ | refine BOwn.cons zq5 ?_))) rfl zq26 ?_
          refine ZVal.op rfl (by decide) (zv_litR (xs := [.tmp 51]) _ rfl rfl rfl zq34 zq32 zq28 zq31 (by decide) ?_)
          skip
          refine zc_one (i := 6) (fun _ => by first | assumption | (repeat (first | exact BOwn.nil _ | refine BOwn.cons zq5 ?_))) zq36 rfl zq26 (zop_callU key_snd Try.func54 zq36 rfl rfl rfl (by decide) rfl rfl (Ups.refl _) ?_)
          refine ⟨_, _, rfl, by omega, by omega, fun kk t hl1 hl2 ht ht0 => ?_⟩
          refine zc_one_val (i := 14) (fun _ => by first | assumption | (repeat (first | exact BOwn.nil _ | refine BOwn.cons zq5 ?_))) zq36 rfl zq26 rfl rfl (zv_append rfl (el_of rfl) (un_sl rfl) rfl (by simp) rfl (by simp; omega) fun t2 ht2 ht20 => ?_)
          rw [St.setT_back ht]
          refine zc_take0 (i := 15) rfl zq36 zq36 zq36 zq36 zq26 rfl rfl (ZPure0.pure (zp_assign rfl rfl)) ?_
          refine zc_end (fun _ => by first | assumption | (repeat (first | exact BOwn.nil _ | refine BOwn.cons zq5 ?_))) zq36 ?_
          exact ⟨_, ⟨kk ++ [b], t2, by simp; omega, (by rw [bytesD_append]), hS.setT t2⟩, zq21, zq21⟩
      rintro e s ⟨kk, t, hkk, rfl, hS⟩
      refine zr_as 9 (.row (bytesD kk) 1 0) rfl zq7 ?_
      (repeat (first | ((with_reducible apply zr_seq)) | ((with_reducible apply zr_region); (try simp only [List.append_eq, List.cons_append, List.nil_append])) | ((with_reducible apply zo_end)) | ((with_reducible apply zo_endB)) | ((with_reducible apply zs_move); (exact rfl); (exact rfl)) | ((with_reducible apply zs_assign); (exact rfl); (exact rfl)) | ((with_reducible apply zs_add); (exact rfl); (exact rfl); (exact rfl); (first | (with_reducible assumption) | exact wrap_in64 (by omega) (by omega))) | ((with_reducible apply zs_lenB); (exact rfl); (exact rfl); (exact un_sl rfl)) | ((with_reducible apply zs_field_ref); (exact rfl); (exact rfl); (exact fld_of rfl)) | ((with_reducible apply zs_load_ref); (exact rfl); (exact rfl); (exact sh_of rfl); (exact rfl)) | ((with_reducible apply zs_cutBhi); (exact rfl); (exact rfl); (exact un_sl rfl); (exact ii_of rfl); (exact rfl); (first | omega | (simp only [List.length_map, List.length_take, List.length_drop, List.length_append, List.length_cons, List.length_nil, List.length_replicate, rowR_length, intR_length, msgR_length, pairR_length]; omega) | decide); (first | omega | (simp only [List.length_map, List.length_take, List.length_drop, List.length_append, List.length_cons, List.length_nil, List.length_replicate, rowR_length, intR_length, msgR_length, pairR_length]; omega) | decide); (first | (with_reducible exact Int.toNat_natCast _) | (simp only [Int.reduceToNat]; exact rfl) | exact rfl)) | ((with_reducible apply (zs_callQ putk_pf cl_65)); (exact rfl); (exact rfl); ((repeat (first | exact DLes.nil | (apply DLes.cons; first | exact DLe.refl _ | exact DLe.nilB | exact DLe.nilR | exact DLe.nilI)))); (first | exact trivial | assumption | ((repeat' (with_reducible refine And.intro ?_ ?_)) <;> first | assumption | omega | exact trivial | (simp; done) | (simp; omega)))) | ((with_reducible apply zs_min); (exact rfl); (exact rfl); (exact rfl); (first | (with_reducible assumption) | exact rfl))))
      exact ⟨m - 1, _, by omega, ⟨i + 1, putL ks (kk.take (min (kk.length : Int) c.keyMax).toNat), by omega, rfl, hS, putL_srt hs1, by have := putL_len ks (kk.take (min (kk.length : Int) c.keyMax).toNat); omega, by have := putL_len ks (kk.take (min (kk.length : Int) c.keyMax).toNat); omega, fun k hk => by
        rcases putL_mem hk with h | rfl
        · exact hs4 _ h
        · rw [List.length_take]; omega⟩, zq21, zq21⟩
    · (repeat (first | ((with_reducible apply zr_seq)) | ((with_reducible apply zr_region); (try simp only [List.append_eq, List.cons_append, List.nil_append])) | ((with_reducible apply zo_end)) | ((with_reducible apply zs_move); (exact rfl); (exact rfl)) | ((with_reducible apply zs_lss); (exact rfl); (exact rfl); (exact rfl)) | ((with_reducible apply zs_len); (exact rfl); (exact rfl); (exact un_sl rfl)) | ((with_reducible apply zs_and); (exact rfl); (exact rfl); (intro hp_; first | exact congrArg some (gd_t hp_) | exact rfl); (exact rfl)) | ((with_reducible apply (zs_h_move [])); (exact rfl); (first | exact GC.t rfl rfl | exact GC.f rfl rfl | exact GC.gt rfl rfl | exact GC.gf rfl rfl); (exact rfl); (intro hc_; first | exact congrArg some (gd_t hc_) | exact congrArg some (gd_t (band_l hc_)) | exact congrArg some (gd_t (band_l (band_l hc_))) | exact rfl)) | ((with_reducible apply (zs_h_lss [])); (exact rfl); (first | exact GC.t rfl rfl | exact GC.f rfl rfl | exact GC.gt rfl rfl | exact GC.gf rfl rfl); (exact rfl); (intro hc_; first | exact congrArg some (gd_t hc_) | exact congrArg some (gd_t (band_l hc_)) | exact congrArg some (gd_t (band_l (band_l hc_))) | exact rfl); (intro hc_; first | exact congrArg some (gd_t hc_) | exact congrArg some (gd_t (band_l hc_)) | exact congrArg some (gd_t (band_l (band_l hc_))) | exact rfl)) | ((with_reducible apply (zs_h_len [])); (exact rfl); (first | exact GC.t rfl rfl | exact GC.f rfl rfl | exact GC.gt rfl rfl | exact GC.gf rfl rfl); (exact rfl); (exact un_sl rfl); (intro hc_; first | exact congrArg some (gd_t hc_) | exact congrArg some (gd_t (band_l hc_)) | exact congrArg some (gd_t (band_l (band_l hc_))) | exact rfl))))
      (first | refine zr_cond rfl (fun h2 => ?_) (fun h2 => ?_) | refine zs_split rfl rfl (fun h2 => ?_) (fun h2 => ?_)) <;> have h2' := h2 <;> (try simp only [decide_eq_true_eq, decide_eq_false_iff_not, Bool.and_eq_true, Bool.or_eq_true, Bool.and_eq_false_iff, Bool.or_eq_false_iff, Bool.not_eq_true', Bool.not_eq_false', Bool.not_eq_true, Bool.not_eq_false, Int.not_le, Int.not_lt, Classical.not_not, Decidable.not_not, ne_eq, beq_iff_eq, bne_iff_ne] at h2')
      · exact absurd h2' (by intro h; exact hgo (by simpa using h2))
      (repeat (first | ((with_reducible apply (zs_sstore (i := 0))); (exact rfl); (exact rfl); (exact sh_of rfl); (assumption); (exact rfl); (first | exact rfl | (simp [cells_orow])); ((try rw [cells_orow]); (repeat (first | exact one_nil | (apply one_cons; (first | exact rfl | exact one_orow _ _ _))))); (first | exact Nat.le_of_ble_eq_true rfl | omega | (focus (simp [cellsD, msgD, nodeD, pairD, cfgD]; done))); (first | (simp only [cells_orow, cD_int, cD_bool, cD_float, cD_nil, cD_ptr0, cD_str, cD_row, cD_mrow, cD_ptr, cD_ref, cD_fn, cD_agg, List.take_zero, List.take_succ_cons, List.take_nil, List.drop_succ_cons, List.drop_zero, List.drop_nil, List.nil_append, List.cons_append, List.append_nil, Nat.zero_add, Nat.reduceAdd]; exact rfl) | exact rfl); (intro sS hS); (try simp only [List.set_cons_zero, List.set_cons_succ] at hS)) | ((with_reducible apply zr_seq)) | ((with_reducible apply zr_region); (try simp only [List.append_eq, List.cons_append, List.nil_append])) | ((with_reducible apply zo_end)) | ((with_reducible apply zs_move); (exact rfl); (exact rfl)) | ((with_reducible apply zs_assign); (exact rfl); (exact rfl)) | ((with_reducible apply zr_cond_f); (exact rfl); (first | assumption | exact rfl)) | ((with_reducible apply zr_block)) | (with_reducible refine zr_exit ?_; simp only [Zthen, Zblock, ↓reduceIte]) | ((with_reducible apply zr_skip')) | ((with_reducible apply zs_field_ptr); (exact rfl); (exact rfl); (exact fld_of rfl)) | ((with_reducible apply zs_load_ptr); (exact rfl); (exact rfl); (exact sh_of rfl); (first | assumption | exact St.setH_self _ _ _ | exact Sep.at_ (i := 0) zq35 rfl | exact Sep.at_ (i := 1) zq35 rfl | exact Sep.at_ (i := 2) zq35 rfl | exact Sep.at_ (i := 3) zq35 rfl | exact Sep.at_ (i := 4) zq35 rfl | exact Sep.at_ (i := 5) zq35 rfl | exact Sep.at_ (i := 6) zq35 rfl); (first | exact rfl | assumption))))
      replace hS := hS.addNone []
      refine zr_loopK [1, 2, 4, 5, 7] (fun m e s => ∃ i o q f, m + i = ks.length + 1 ∧ e = [(11, .v (.int .i64 (i : Nat)))] ∧ Zm.Sep st s [(o, f), (some a5, [.v (.bool false), .row (rowR ks) 1 0, .v (.slice none 0 0), orow o i q, .v (.slice none 0 0)]), (some a4, zeroN)] ∧ GRow o f 1 i q (intR (kidsN l.length i)).flatten) (ks.length + 1) _ zq19 ⟨0, none, 0, [], by simp, rfl, hS, GRow.empty 1⟩ zq21 ?_
      rintro m e s ⟨i, o, q, f, hm, rfl, hS, hg⟩
      (repeat (first | ((with_reducible apply zr_seq)) | ((with_reducible apply zr_region); (try simp only [List.append_eq, List.cons_append, List.nil_append])) | ((with_reducible apply zo_end)) | ((with_reducible apply zs_move); (exact rfl); (exact rfl)) | ((with_reducible apply zs_leq); (exact rfl); (exact rfl); (exact rfl)) | ((with_reducible apply zs_len); (exact rfl); (exact rfl); (exact un_sl rfl))))
      (first | refine zr_cond rfl (fun h3 => ?_) (fun h3 => ?_) | refine zs_split rfl rfl (fun h3 => ?_) (fun h3 => ?_)) <;> have h3' := h3 <;> (try simp only [decide_eq_true_eq, decide_eq_false_iff_not, Bool.and_eq_true, Bool.or_eq_true, Bool.and_eq_false_iff, Bool.or_eq_false_iff, Bool.not_eq_true', Bool.not_eq_false', Bool.not_eq_true, Bool.not_eq_false, Int.not_le, Int.not_lt, Classical.not_not, Decidable.not_not, ne_eq, beq_iff_eq, bne_iff_ne] at h3')
      · have hw1 : IntKind.i64.wrap ((i : Int) * 7) = (i : Int) * 7 := wrap_in64 (by omega) (by omega)
        have hw2 : IntKind.i64.wrap ((i : Int) * 7 + ((intR l).length : Nat)) = (i : Int) * 7 + ((intR l).length : Nat) := wrap_in64 (by omega) (by omega)
        have hw3 : IntKind.i64.wrap ((i : Int) * 7 + ((intR l).length : Nat) + 1) = (i : Int) * 7 + ((intR l).length : Nat) + 1 := wrap_in64 (by omega) (by omega)
        (repeat (first | ((with_reducible apply (zs_sstore (i := 1))); (exact rfl); (exact rfl); (exact sh_of rfl); (assumption); (exact rfl); (first | exact rfl | (simp [cells_orow])); ((try rw [cells_orow]); (repeat (first | exact one_nil | (apply one_cons; (first | exact rfl | exact one_orow _ _ _))))); (first | exact Nat.le_of_ble_eq_true rfl | omega | (focus (simp [cellsD, msgD, nodeD, pairD, cfgD]; done))); (first | (simp only [cells_orow, cD_int, cD_bool, cD_float, cD_nil, cD_ptr0, cD_str, cD_row, cD_mrow, cD_ptr, cD_ref, cD_fn, cD_agg, List.take_zero, List.take_succ_cons, List.take_nil, List.drop_succ_cons, List.drop_zero, List.drop_nil, List.nil_append, List.cons_append, List.append_nil, Nat.zero_add, Nat.reduceAdd]; exact rfl) | exact rfl); (intro sS hS); (try simp only [List.set_cons_zero, List.set_cons_succ] at hS)) | ((with_reducible apply zr_seq)) | ((with_reducible apply zr_region); (try simp only [List.append_eq, List.cons_append, List.nil_append])) | ((with_reducible apply zo_end)) | ((with_reducible apply zo_endB)) | ((with_reducible apply zs_move); (exact rfl); (exact rfl)) | ((with_reducible apply zs_assign); (exact rfl); (exact rfl)) | ((with_reducible apply zs_add); (exact rfl); (exact rfl); (exact rfl); (first | (with_reducible assumption) | exact wrap_in64 (by omega) (by omega))) | ((with_reducible apply zs_len); (exact rfl); (exact rfl); (exact un_sl rfl)) | ((with_reducible apply zr_block)) | ((with_reducible apply zr_skip')) | ((with_reducible apply zs_field_ptr); (exact rfl); (exact rfl); (exact fld_of rfl)) | ((with_reducible apply zs_load_ptr); (exact rfl); (exact rfl); (exact sh_of rfl); (first | assumption | exact St.setH_self _ _ _ | exact Sep.at_ (i := 0) zq35 rfl | exact Sep.at_ (i := 1) zq35 rfl | exact Sep.at_ (i := 2) zq35 rfl | exact Sep.at_ (i := 3) zq35 rfl | exact Sep.at_ (i := 4) zq35 rfl | exact Sep.at_ (i := 5) zq35 rfl | exact Sep.at_ (i := 6) zq35 rfl); (first | exact rfl | assumption)) | ((with_reducible apply zs_mul); (exact rfl); (exact rfl); (exact rfl); (first | (with_reducible assumption) | exact wrap_in64 (by omega) (by omega))) | ((with_reducible apply (zs_lit (t := 103) [.tmp 102])); (exact rfl); (exact rfl); (exact rfl); (exact rfl); (exact un_sl rfl); (exact el_of rfl); (simp only [List.map_cons, List.map_nil, cellsD]; exact rfl); ((repeat (first | exact lit_nil | (apply lit_cons; exact rfl; (repeat (first | exact one_nil | (apply one_cons; (first | exact rfl | exact one_orow _ _ _)))))))); (decide)) | ((with_reducible apply (zs_sapp (i := 0))); (exact rfl); (exact rfl); (exact rfl); (exact un_sl rfl); (exact el_of rfl); (simp [oneD, Value.oneCell']); (assumption); (exact rfl); (assumption); ((try simp only [List.length_map, List.length_cons, List.length_nil, List.length_take, List.length_drop, List.length_append, rowR_length, intR_length, msgR_length, pairR_length]); omega); (intro o1 c1 f1 sS hS hg); (try simp only [List.set_cons_zero, List.set_cons_succ] at hS))))
        exact ⟨m - 1, _, by omega, ⟨i + 1, o1, c1, f1, by omega, rfl, hS, by rw [kidsN_succ, intR_append, List.flatten_append]; rw [hr0] at hg; exact hg⟩, zq21, zq21⟩
      · have hi : i = ks.length + 1 := by simp only [rowR_length] at h3'; omega
        subst hi
        (repeat (first | ((with_reducible apply zr_seq)) | ((with_reducible apply zr_region); (try simp only [List.append_eq, List.cons_append, List.nil_append])) | ((with_reducible apply zo_end)) | ((with_reducible apply zs_assign); (exact rfl); (exact rfl)) | ((with_reducible apply zr_block)) | (with_reducible refine zr_exit ?_; simp only [Zthen, Zblock, ↓reduceIte])))
        replace hS := hS.addNone []
        refine zr_loopK [1, 2, 4, 5] (fun m e s => ∃ i ms o3 c3 f3, m + i = l.length ∧ e = [(12, .v (.int .i64 (i : Nat)))] ∧ Zm.Sep st s [(o3, f3), (o, f), (some a5, [.v (.bool false), .row (rowR ks) 1 0, .v (.slice none 0 0), orow o (ks.length + 1) q, orow o3 ms.length c3]), (some a4, zeroN)] ∧ GRow o3 f3 3 ms.length c3 (msgR ms).flatten ∧ (ms.length : Int) ≤ c.m ∧ ms.length ≤ i ∧ ∀ m ∈ ms, m.1 ≠ 0 ∧ ∃ v : Bs, v.length = 2 ∧ MsgS c v m) l.length _ zq19 ⟨0, [], none, 0, [], by simp, rfl, hS, GRow.empty 3, by simp; omega, by simp, by simp⟩ zq21 ?_
        rintro m e s ⟨i, ms, o3, c3, f3, hm, rfl, hS, hg3, hm3, hm4, hm5⟩
        by_cases hgo2 : i < l.length ∧ (ms.length : Int) < c.m
        · have hi1 : decide ((i : Int) < ((intR l).length : Int)) = true := decide_eq_true (by omega)
          have hi2 : decide ((ms.length : Int) < c.m) = true := decide_eq_true (by omega)
          obtain ⟨x, hx, hxt, _, hxg⟩ := eltI (l := l) (i := i) (by omega)
          obtain ⟨b, hb⟩ := u8_of (i : Int)
          have hmp : 0 ≤ c.keyMax ∧ c.keyMax ≤ 4611686018427387904 ∧ 0 ≤ c.valMax ∧ c.valMax ≤ 4611686018427387904 ∧ ([b, 9] : Bs).length ≤ 2147483648 := by refine ⟨hk1, by omega, hv1, by omega, by simp⟩
          (repeat (first | ((with_reducible apply zr_seq)) | ((with_reducible apply zr_region); (try simp only [List.append_eq, List.cons_append, List.nil_append])) | ((with_reducible apply zo_end)) | ((with_reducible apply zs_yes); (exact rfl); (exact rfl); (first | assumption | exact rfl)) | ((with_reducible apply zs_move); (exact rfl); (exact rfl)) | ((with_reducible apply zs_lss); (exact rfl); (exact rfl); (exact rfl)) | ((with_reducible apply zs_pick_t); (exact rfl); (exact rfl); (first | assumption | exact rfl); (exact rfl)) | ((with_reducible apply zs_len); (exact rfl); (exact rfl); (exact un_sl rfl)) | ((with_reducible apply zr_cond_t); (exact rfl); (first | assumption | exact rfl)) | ((with_reducible apply zr_block)) | ((with_reducible apply zr_skip')) | ((with_reducible apply zs_field_ptr); (exact rfl); (exact rfl); (exact fld_of rfl)) | ((with_reducible apply zs_field_ref); (exact rfl); (exact rfl); (exact fld_of rfl)) | ((with_reducible apply zs_load_ref); (exact rfl); (exact rfl); (exact sh_of rfl); (exact rfl)) | ((with_reducible apply zs_load_ptr); (exact rfl); (exact rfl); (exact sh_of rfl); (first | assumption | exact St.setH_self _ _ _ | exact Sep.at_ (i := 0) zq35 rfl | exact Sep.at_ (i := 1) zq35 rfl | exact Sep.at_ (i := 2) zq35 rfl | exact Sep.at_ (i := 3) zq35 rfl | exact Sep.at_ (i := 4) zq35 rfl | exact Sep.at_ (i := 5) zq35 rfl | exact Sep.at_ (i := 6) zq35 rfl); (first | exact rfl | assumption)) | ((with_reducible apply zs_len_orow); (exact rfl); (exact rfl); (first | exact GRow.nil0 zq35); (exact un_sl rfl))))
          refine zr_cutK [1, 2, 4, 5, 12, 13] (fun e s => ∃ (a13 : Nat) (mm : MsgV), MsgS c [b, 9] mm ∧ e = [(13, .ptr a13 0)] ∧ Zm.Sep st s [(some a13, msgD mm), (o3, f3), (o, f), (some a5, [.v (.bool false), .row (rowR ks) 1 0, .v (.slice none 0 0), orow o (ks.length + 1) q, orow o3 ms.length c3]), (some a4, zeroN)]) zq19 ?_ ?_
          · refine zc_begin (m := 12) ([]) [11] zq36 rfl ?_
            refine zc_take0 (i := 0) rfl zq36 zq36 zq36 zq36 zq26 rfl rfl (zp_load_refAll rfl zq33 rfl rfl) ?_
            refine zc_take0 (i := 1) rfl zq36 zq36 zq36 zq36 zq26 rfl rfl (ZPure0.pure (zp_move rfl rfl)) ?_
            refine zc_take0 (i := 2) rfl zq36 zq36 zq36 zq36 zq26 rfl rfl (ZPure0.pure (zp_move rfl rfl)) ?_
            refine zc_take0 (i := 3) rfl zq36 zq36 zq36 zq36 zq26 rfl rfl zq0 ?_
            refine zc_take0 (i := 4) rfl zq36 zq36 zq36 zq36 zq26 rfl rfl (zp_load_ref rfl zq33 rfl rfl) ?_
            refine zc_take0 (i := 5) rfl zq36 zq36 zq36 zq36 zq26 rfl rfl (ZPure0.pure (zp_shrI (p := 16) rfl rfl (by decide) rfl (by decide))) ?_
            refine zc_take0 (i := 6) rfl zq36 zq36 zq36 zq36 zq26 rfl rfl (ZPure0.pure (zp_move rfl rfl)) ?_
            refine zc_take0 (i := 7) rfl zq36 zq36 zq36 zq36 zq26 rfl rfl (ZPure0.pure (zp_conv rfl rfl (by exact un_int rfl) (by exact un_int rfl) zq22)) ?_
            skip
            refine zc_all2 (i := 8) (j := 10) (fun _ => by first | assumption | (repeat (first | exact BOwn.nil _ | refine BOwn.cons zq5 ?_))) zq36 ?_ ?_
            · refine zoneC_op (i := 8) (fun _ => by first | assumption | (repeat (first | exact BOwn.nil _ | refine BOwn.cons zq5 ?_))) rfl zq26 ?_
              refine ZVal.op rfl (by decide) (zv_litR (xs := [.tmp 127, .const (.int .u8 9)]) _ rfl rfl rfl zq34 zq32 zq28 zq31 (by decide) ?_)
              skip
              refine zc_all2 (i := 9) (j := 10) (fun _ => by first | assumption | (repeat (first | exact BOwn.nil _ | refine BOwn.cons zq5 ?_))) zq36 ?_ ?_
              · refine zoneC_op (i := 9) (fun _ => by first | assumption | (repeat (first | exact BOwn.nil _ | refine BOwn.cons zq5 ?_))) rfl zq26 ?_
                refine zop_callU (message_ps (c := c) (v := [b, 9]) (n := x / 16) (tv := 0) hmp) Try.func22 zq36 rfl rfl rfl (by decide) rfl rfl (Ups.refl _) ?_
                refine ⟨rfl, fun d hdm => ?_⟩
                obtain ⟨mm, rfl, hmm⟩ := hdm
                refine zc_one_val (i := 10) (fun _ => by first | assumption | (repeat (first | exact BOwn.nil _ | refine BOwn.cons zq5 ?_))) zq36 rfl zq26 rfl rfl (zv_salloc rfl zq32 zq31 zq35 fun a13 sS hS => ?_)
                refine zc_one (i := 11) (fun _ => by first | assumption | (repeat (first | exact BOwn.nil _ | refine BOwn.cons zq5 ?_))) zq36 rfl zq26 (zop_sstore (i := 0) rfl rfl rfl rfl zq33 zq35 rfl zq30 zq20 zq25 zq4 fun sS hS => ?_)
                (try simp only [List.set_cons_zero, List.set_cons_succ] at hS)
                refine zc_end (fun hcl_ => absurd hcl_ (by decide)) zq36 ?_
                exact ⟨_, ⟨_, mm, hmm, rfl, hS⟩, zq21, zq21⟩
              · refine zoneC_op (i := 10) (fun _ => by first | assumption | (repeat (first | exact BOwn.nil _ | refine BOwn.cons zq5 ?_))) rfl zq26 ?_
                refine ZVal.op rfl (by decide) (zv_salloc rfl zq32 zq31 hS fun a13 sS hS => ?_)
                skip
                refine zc_one (i := 9) (fun _ => by first | assumption | (repeat (first | exact BOwn.nil _ | refine BOwn.cons zq5 ?_))) zq36 rfl zq26 (zop_callU (message_ps (c := c) (v := [b, 9]) (n := x / 16) (tv := 0) hmp) Try.func22 zq36 rfl rfl rfl (by decide) rfl rfl (Ups.refl _) ?_)
                refine ⟨rfl, fun d hdm => ?_⟩
                obtain ⟨mm, rfl, hmm⟩ := hdm
                refine zc_one (i := 11) (fun _ => by first | assumption | (repeat (first | exact BOwn.nil _ | refine BOwn.cons zq5 ?_))) zq36 rfl zq26 (zop_sstore (i := 0) rfl rfl rfl rfl zq33 zq35 rfl zq30 zq20 zq25 zq4 fun sS hS => ?_)
                (try simp only [List.set_cons_zero, List.set_cons_succ] at hS)
                refine zc_end (fun hcl_ => absurd hcl_ (by decide)) zq36 ?_
                exact ⟨_, ⟨_, mm, hmm, rfl, hS⟩, zq21, zq21⟩
            · refine zoneC_op (i := 10) (fun _ => by first | assumption | (repeat (first | exact BOwn.nil _ | refine BOwn.cons zq5 ?_))) rfl zq26 ?_
              refine ZVal.op rfl (by decide) (zv_salloc rfl zq32 zq31 hS fun a13 sS hS => ?_)
              refine zc_one_val (i := 8) (fun _ => by first | assumption | (repeat (first | exact BOwn.nil _ | refine BOwn.cons zq5 ?_))) zq36 rfl zq26 rfl rfl (zv_litR (xs := [.tmp 127, .const (.int .u8 9)]) _ rfl rfl rfl zq34 zq32 zq28 zq15 (by decide) ?_)
              skip
              refine zc_one (i := 9) (fun _ => by first | assumption | (repeat (first | exact BOwn.nil _ | refine BOwn.cons zq5 ?_))) zq36 rfl zq26 (zop_callU (message_ps (c := c) (v := [b, 9]) (n := x / 16) (tv := 0) hmp) Try.func22 zq36 rfl rfl rfl (by decide) rfl rfl (Ups.refl _) ?_)
              refine ⟨rfl, fun d hdm => ?_⟩
              obtain ⟨mm, rfl, hmm⟩ := hdm
              refine zc_one (i := 11) (fun _ => by first | assumption | (repeat (first | exact BOwn.nil _ | refine BOwn.cons zq5 ?_))) zq36 rfl zq26 (zop_sstore (i := 0) rfl rfl rfl rfl zq33 zq35 rfl zq30 zq20 zq25 zq4 fun sS hS => ?_)
              (try simp only [List.set_cons_zero, List.set_cons_succ] at hS)
              refine zc_end (fun hcl_ => absurd hcl_ (by decide)) zq36 ?_
              exact ⟨_, ⟨_, mm, hmm, rfl, hS⟩, zq21, zq21⟩
          rintro e s ⟨a13, mm, hmm, rfl, hS⟩
          (repeat (first | ((with_reducible apply zr_seq)) | ((with_reducible apply zr_region); (try simp only [List.append_eq, List.cons_append, List.nil_append])) | ((with_reducible apply zo_end)) | ((with_reducible apply zs_neq); (exact rfl); (exact rfl); (exact rfl)) | ((with_reducible apply zs_field_ptr); (exact rfl); (exact rfl); (exact fld_of rfl)) | ((with_reducible apply zs_load_ptr); (exact rfl); (exact rfl); (exact sh_of rfl); (first | assumption | exact St.setH_self _ _ _ | exact Sep.at_ (i := 0) zq35 rfl | exact Sep.at_ (i := 1) zq35 rfl | exact Sep.at_ (i := 2) zq35 rfl | exact Sep.at_ (i := 3) zq35 rfl | exact Sep.at_ (i := 4) zq35 rfl | exact Sep.at_ (i := 5) zq35 rfl | exact Sep.at_ (i := 6) zq35 rfl); (first | exact rfl | assumption))))
          (first | refine zr_cond rfl (fun h6 => ?_) (fun h6 => ?_) | refine zs_split rfl rfl (fun h6 => ?_) (fun h6 => ?_)) <;> have h6' := h6 <;> (try simp only [decide_eq_true_eq, decide_eq_false_iff_not, Bool.and_eq_true, Bool.or_eq_true, Bool.and_eq_false_iff, Bool.or_eq_false_iff, Bool.not_eq_true', Bool.not_eq_false', Bool.not_eq_true, Bool.not_eq_false, Int.not_le, Int.not_lt, Classical.not_not, Decidable.not_not, ne_eq, beq_iff_eq, bne_iff_ne] at h6')
          · (repeat (first | ((with_reducible apply (zs_sstore (i := 3))); (exact rfl); (exact rfl); (exact sh_of rfl); (assumption); (exact rfl); (first | exact rfl | (simp [cells_orow])); ((try rw [cells_orow]); (repeat (first | exact one_nil | (apply one_cons; (first | exact rfl | exact one_orow _ _ _))))); (first | exact Nat.le_of_ble_eq_true rfl | omega | (focus (simp [cellsD, msgD, nodeD, pairD, cfgD]; done))); (first | (simp only [cells_orow, cD_int, cD_bool, cD_float, cD_nil, cD_ptr0, cD_str, cD_row, cD_mrow, cD_ptr, cD_ref, cD_fn, cD_agg, List.take_zero, List.take_succ_cons, List.take_nil, List.drop_succ_cons, List.drop_zero, List.drop_nil, List.nil_append, List.cons_append, List.append_nil, Nat.zero_add, Nat.reduceAdd]; exact rfl) | exact rfl); (intro sS hS); (try simp only [List.set_cons_zero, List.set_cons_succ] at hS)) | ((with_reducible apply zr_region); (try simp only [List.append_eq, List.cons_append, List.nil_append])) | ((with_reducible apply zo_end)) | ((with_reducible apply zo_endB)) | ((with_reducible apply zs_move); (exact rfl); (exact rfl)) | ((with_reducible apply zs_assign); (exact rfl); (exact rfl)) | ((with_reducible apply zs_add); (exact rfl); (exact rfl); (exact rfl); (first | (with_reducible assumption) | exact wrap_in64 (by omega) (by omega))) | ((with_reducible apply zs_field_ptr); (exact rfl); (exact rfl); (exact fld_of rfl)) | ((with_reducible apply zs_load_ptr); (exact rfl); (exact rfl); (exact sh_of rfl); (first | assumption | exact St.setH_self _ _ _ | exact Sep.at_ (i := 0) zq35 rfl | exact Sep.at_ (i := 1) zq35 rfl | exact Sep.at_ (i := 2) zq35 rfl | exact Sep.at_ (i := 3) zq35 rfl | exact Sep.at_ (i := 4) zq35 rfl | exact Sep.at_ (i := 5) zq35 rfl | exact Sep.at_ (i := 6) zq35 rfl); (first | exact rfl | assumption)) | ((with_reducible apply zs_load_ptrA); (exact rfl); (exact rfl); (exact sh_of rfl); (first | assumption | exact St.setH_self _ _ _ | exact Sep.at_ (i := 0) zq35 rfl | exact Sep.at_ (i := 1) zq35 rfl | exact Sep.at_ (i := 2) zq35 rfl | exact Sep.at_ (i := 3) zq35 rfl | exact Sep.at_ (i := 4) zq35 rfl | exact Sep.at_ (i := 5) zq35 rfl | exact Sep.at_ (i := 6) zq35 rfl); (first | exact Nat.le_of_ble_eq_true rfl | exact (by decide) | (focus (simp [cellsD]; done))); (first | (simp only [cells_orow, cD_int, cD_bool, cD_float, cD_nil, cD_ptr0, cD_str, cD_row, cD_mrow, cD_ptr, cD_ref, cD_fn, cD_agg, List.take_zero, List.take_succ_cons, List.take_nil, List.drop_succ_cons, List.drop_zero, List.drop_nil, List.nil_append, List.cons_append, List.append_nil, Nat.zero_add, Nat.reduceAdd]; exact rfl) | exact rfl)) | ((with_reducible apply (zs_lit (t := 136) [.tmp 135])); (exact rfl); (exact rfl); (exact rfl); (exact rfl); (exact un_sl rfl); (exact el_of rfl); (simp only [List.map_cons, List.map_nil, cellsD]; exact rfl); ((repeat (first | exact lit_nil | (apply lit_cons; exact rfl; (repeat (first | exact one_nil | (apply one_cons; (first | exact rfl | exact one_orow _ _ _)))))))); (decide)) | ((with_reducible apply (zs_sapp (i := 1))); (exact rfl); (exact rfl); (exact rfl); (exact un_sl rfl); (exact el_of rfl); (simp [oneD, Value.oneCell']); (assumption); (exact rfl); (assumption); ((try simp only [List.length_map, List.length_cons, List.length_nil, List.length_take, List.length_drop, List.length_append, rowR_length, intR_length, msgR_length, pairR_length]); omega); (intro o1 c1 f1 sS hS hg); (try simp only [List.set_cons_zero, List.set_cons_succ] at hS))))
            refine ⟨m - 1, _, by omega, ⟨i + 1, ms ++ [mm], o1, c1, f1, by omega, rfl, ?_, ?_, by rw [List.length_append]; simp; omega, by rw [List.length_append]; simp; omega, fun q hq => ?_⟩, zq21, zq21⟩
            · rw [List.length_append]; exact hS.erase 0
            · rw [List.length_append, msgR_append, List.flatten_append]; exact hg
            · rcases List.mem_append.1 hq with hq | hq
              · exact hm5 q hq
              · simp only [List.mem_singleton] at hq; subst hq; exact ⟨h6', [b, 9], rfl, hmm⟩
          · (repeat (first | ((with_reducible apply zr_region); (try simp only [List.append_eq, List.cons_append, List.nil_append])) | ((with_reducible apply zo_end)) | ((with_reducible apply zs_move); (exact rfl); (exact rfl)) | ((with_reducible apply zs_assign); (exact rfl); (exact rfl)) | ((with_reducible apply zs_add); (exact rfl); (exact rfl); (exact rfl); (first | (with_reducible assumption) | exact wrap_in64 (by omega) (by omega))) | ((with_reducible apply zr_skipB))))
            exact ⟨m - 1, _, by omega, ⟨i + 1, ms, o3, c3, f3, by omega, rfl, hS.erase 0, hg3, hm3, by omega, hm5⟩, zq21, zq21⟩
        · by_cases hi : i < l.length
          · have hi1 : decide ((i : Int) < ((intR l).length : Int)) = true := decide_eq_true (by omega)
            have hi2 : decide ((ms.length : Int) < c.m) = false := decide_eq_false (by omega)
            (repeat (first | ((with_reducible apply (zs_sstore (i := 3))); (exact rfl); (exact rfl); (exact sh_of rfl); (assumption); (exact rfl); (first | exact rfl | (simp [cells_orow])); ((try rw [cells_orow]); (repeat (first | exact one_nil | (apply one_cons; (first | exact rfl | exact one_orow _ _ _))))); (first | exact Nat.le_of_ble_eq_true rfl | omega | (focus (simp [cellsD, msgD, nodeD, pairD, cfgD]; done))); (first | (simp only [cells_orow, cD_int, cD_bool, cD_float, cD_nil, cD_ptr0, cD_str, cD_row, cD_mrow, cD_ptr, cD_ref, cD_fn, cD_agg, List.take_zero, List.take_succ_cons, List.take_nil, List.drop_succ_cons, List.drop_zero, List.drop_nil, List.nil_append, List.cons_append, List.append_nil, Nat.zero_add, Nat.reduceAdd]; exact rfl) | exact rfl); (intro sS hS); (try simp only [List.set_cons_zero, List.set_cons_succ] at hS)) | ((with_reducible apply zr_seq)) | ((with_reducible apply zr_region); (try simp only [List.append_eq, List.cons_append, List.nil_append])) | ((with_reducible apply zo_end)) | ((with_reducible apply zs_yes); (exact rfl); (exact rfl); (first | assumption | exact rfl)) | ((with_reducible apply zs_move); (exact rfl); (exact rfl)) | ((with_reducible apply zs_lss); (exact rfl); (exact rfl); (exact rfl)) | ((with_reducible apply zs_pick_t); (exact rfl); (exact rfl); (first | assumption | exact rfl); (exact rfl)) | ((with_reducible apply zs_len); (exact rfl); (exact rfl); (exact un_sl rfl)) | ((with_reducible apply zr_cond_f); (exact rfl); (first | assumption | exact rfl)) | (with_reducible refine zr_exit ?_; simp only [Zthen, Zblock, ↓reduceIte]) | ((with_reducible apply zs_field_ptr); (exact rfl); (exact rfl); (exact fld_of rfl)) | ((with_reducible apply zs_field_ref); (exact rfl); (exact rfl); (exact fld_of rfl)) | ((with_reducible apply zs_load_ref); (exact rfl); (exact rfl); (exact sh_of rfl); (exact rfl)) | ((with_reducible apply zs_load_ptr); (exact rfl); (exact rfl); (exact sh_of rfl); (first | assumption | exact St.setH_self _ _ _ | exact Sep.at_ (i := 0) zq35 rfl | exact Sep.at_ (i := 1) zq35 rfl | exact Sep.at_ (i := 2) zq35 rfl | exact Sep.at_ (i := 3) zq35 rfl | exact Sep.at_ (i := 4) zq35 rfl | exact Sep.at_ (i := 5) zq35 rfl | exact Sep.at_ (i := 6) zq35 rfl); (first | exact rfl | assumption)) | ((with_reducible apply zs_len_orow); (exact rfl); (exact rfl); (first | exact GRow.nil0 zq35); (exact un_sl rfl)) | ((with_reducible apply zs_load_ptrA); (exact rfl); (exact rfl); (exact sh_of rfl); (first | assumption | exact St.setH_self _ _ _ | exact Sep.at_ (i := 0) zq35 rfl | exact Sep.at_ (i := 1) zq35 rfl | exact Sep.at_ (i := 2) zq35 rfl | exact Sep.at_ (i := 3) zq35 rfl | exact Sep.at_ (i := 4) zq35 rfl | exact Sep.at_ (i := 5) zq35 rfl | exact Sep.at_ (i := 6) zq35 rfl); (first | exact Nat.le_of_ble_eq_true rfl | exact (by decide) | (focus (simp [cellsD]; done))); (first | (simp only [cells_orow, cD_int, cD_bool, cD_float, cD_nil, cD_ptr0, cD_str, cD_row, cD_mrow, cD_ptr, cD_ref, cD_fn, cD_agg, List.take_zero, List.take_succ_cons, List.take_nil, List.drop_succ_cons, List.drop_zero, List.drop_nil, List.nil_append, List.cons_append, List.append_nil, Nat.zero_add, Nat.reduceAdd]; exact rfl) | exact rfl)) | ((with_reducible apply zr_retZ); (exact rfl); (repeat (first | exact resD_nil _ _ _ | ((with_reducible apply resD_tmp); (exact rfl)) | ((with_reducible apply resD_cell_agg); (exact rfl); (exact sh_of rfl); (first | assumption | exact St.setH_self _ _ _ | exact Sep.at_ (i := 0) zq35 rfl | exact Sep.at_ (i := 1) zq35 rfl | exact Sep.at_ (i := 2) zq35 rfl | exact Sep.at_ (i := 3) zq35 rfl | exact Sep.at_ (i := 4) zq35 rfl | exact Sep.at_ (i := 5) zq35 rfl | exact Sep.at_ (i := 6) zq35 rfl); (exact rfl)) | ((with_reducible apply resD_cell); (exact rfl); (exact sh_of rfl); (first | assumption | exact St.setH_self _ _ _ | exact Sep.at_ (i := 0) zq35 rfl | exact Sep.at_ (i := 1) zq35 rfl | exact Sep.at_ (i := 2) zq35 rfl | exact Sep.at_ (i := 3) zq35 rfl | exact Sep.at_ (i := 4) zq35 rfl | exact Sep.at_ (i := 5) zq35 rfl | exact Sep.at_ (i := 6) zq35 rfl); (exact rfl)))); (simp only [resOf]))))
            have hq := hK ⟨false, ks, [], kidsN l.length (ks.length + 1), ms⟩ ⟨rfl, hs1, hs3, hs4, rfl, rfl, hm3, hm5⟩ o q f o3 c3 f3 _ ((hS.erase 2).erase 2) (by rw [kidsN_length]; exact hg) hg3
            simp only [kidsN_length] at hq
            exact KE.mk _ (Ext.refl _) hq
          · have hi1 : decide ((i : Int) < ((intR l).length : Int)) = false := decide_eq_false (by omega)
            (repeat (first | ((with_reducible apply (zs_sstore (i := 3))); (exact rfl); (exact rfl); (exact sh_of rfl); (assumption); (exact rfl); (first | exact rfl | (simp [cells_orow])); ((try rw [cells_orow]); (repeat (first | exact one_nil | (apply one_cons; (first | exact rfl | exact one_orow _ _ _))))); (first | exact Nat.le_of_ble_eq_true rfl | omega | (focus (simp [cellsD, msgD, nodeD, pairD, cfgD]; done))); (first | (simp only [cells_orow, cD_int, cD_bool, cD_float, cD_nil, cD_ptr0, cD_str, cD_row, cD_mrow, cD_ptr, cD_ref, cD_fn, cD_agg, List.take_zero, List.take_succ_cons, List.take_nil, List.drop_succ_cons, List.drop_zero, List.drop_nil, List.nil_append, List.cons_append, List.append_nil, Nat.zero_add, Nat.reduceAdd]; exact rfl) | exact rfl); (intro sS hS); (try simp only [List.set_cons_zero, List.set_cons_succ] at hS)) | ((with_reducible apply zr_seq)) | ((with_reducible apply zr_region); (try simp only [List.append_eq, List.cons_append, List.nil_append])) | ((with_reducible apply zo_end)) | ((with_reducible apply zs_noU); (exact rfl); (exact rfl); (first | assumption | exact rfl | (simp only [Bool.not_false, Bool.not_true]; assumption)); (exact rfl)) | ((with_reducible apply zs_move); (exact rfl); (exact rfl)) | ((with_reducible apply zs_lss); (exact rfl); (exact rfl); (exact rfl)) | ((with_reducible apply zs_pick_f); (exact rfl); (exact rfl); (first | assumption | exact rfl); (exact rfl)) | ((with_reducible apply zs_len); (exact rfl); (exact rfl); (exact un_sl rfl)) | ((with_reducible apply zr_cond_f); (exact rfl); (first | assumption | exact rfl)) | (with_reducible refine zr_exit ?_; simp only [Zthen, Zblock, ↓reduceIte]) | ((with_reducible apply zs_load_ptrA); (exact rfl); (exact rfl); (exact sh_of rfl); (first | assumption | exact St.setH_self _ _ _ | exact Sep.at_ (i := 0) zq35 rfl | exact Sep.at_ (i := 1) zq35 rfl | exact Sep.at_ (i := 2) zq35 rfl | exact Sep.at_ (i := 3) zq35 rfl | exact Sep.at_ (i := 4) zq35 rfl | exact Sep.at_ (i := 5) zq35 rfl | exact Sep.at_ (i := 6) zq35 rfl); (first | exact Nat.le_of_ble_eq_true rfl | exact (by decide) | (focus (simp [cellsD]; done))); (first | (simp only [cells_orow, cD_int, cD_bool, cD_float, cD_nil, cD_ptr0, cD_str, cD_row, cD_mrow, cD_ptr, cD_ref, cD_fn, cD_agg, List.take_zero, List.take_succ_cons, List.take_nil, List.drop_succ_cons, List.drop_zero, List.drop_nil, List.nil_append, List.cons_append, List.append_nil, Nat.zero_add, Nat.reduceAdd]; exact rfl) | exact rfl)) | ((with_reducible apply zr_retZ); (exact rfl); (repeat (first | exact resD_nil _ _ _ | ((with_reducible apply resD_tmp); (exact rfl)) | ((with_reducible apply resD_cell_agg); (exact rfl); (exact sh_of rfl); (first | assumption | exact St.setH_self _ _ _ | exact Sep.at_ (i := 0) zq35 rfl | exact Sep.at_ (i := 1) zq35 rfl | exact Sep.at_ (i := 2) zq35 rfl | exact Sep.at_ (i := 3) zq35 rfl | exact Sep.at_ (i := 4) zq35 rfl | exact Sep.at_ (i := 5) zq35 rfl | exact Sep.at_ (i := 6) zq35 rfl); (exact rfl)) | ((with_reducible apply resD_cell); (exact rfl); (exact sh_of rfl); (first | assumption | exact St.setH_self _ _ _ | exact Sep.at_ (i := 0) zq35 rfl | exact Sep.at_ (i := 1) zq35 rfl | exact Sep.at_ (i := 2) zq35 rfl | exact Sep.at_ (i := 3) zq35 rfl | exact Sep.at_ (i := 4) zq35 rfl | exact Sep.at_ (i := 5) zq35 rfl | exact Sep.at_ (i := 6) zq35 rfl); (exact rfl)))); (simp only [resOf]))))
            have hq := hK ⟨false, ks, [], kidsN l.length (ks.length + 1), ms⟩ ⟨rfl, hs1, hs3, hs4, rfl, rfl, hm3, hm5⟩ o q f o3 c3 f3 _ ((hS.erase 2).erase 2) (by rw [kidsN_length]; exact hg) hg3
            simp only [kidsN_length] at hq
            exact KE.mk _ (Ext.refl _) hq
  · exact absurd h1 (by rw [hd]; simp)
end Go.Proofs.ZtLe
namespace Go.Proofs.ZtLe
open Go.RowKit Go.Proofs Go.Proofs.Zm
set_option linter.unusedVariables false
set_option linter.unusedSimpArgs false
set_option maxHeartbeats 20000000
set_option maxRecDepth 100000
attribute [local irreducible] ZWp ZOps ZPure ZPure0 ZVal ZOp SoundF

theorem node_ps {c : CfgV} {l : List Int} {tl : Nat} (h : l.length % 2 = 1 ∧ l.length ≤ 140737488355328 ∧ NodeC c) : PureS Try.prog 28 [.agg (cfgD c), .row (intR l) 1 tl] (fun d => ∃ n, d = .agg (nodeD n) ∧ InnerV c l.length n) :=
  PureS.ofOwn fun st K hK => ⟨nodeSpec, node_own, c, l, tl, rfl, h.1, h.2.1, h.2.2, fun n hn o4 c4 f4 o3 c3 f3 st' hS g4 g3 => by
    obtain ⟨e4, k4⟩ := OR.mk_ok (by decide) g4 rfl (intR_one _)
    obtain ⟨e3, k3⟩ := OR.mk_ok (by decide) g3 rfl (msgR_three _)
    refine hK [⟨o3, f3, 3, c3, msgR n.msgs⟩, ⟨o4, f4, 1, c4, intR n.kids⟩] st' _ (.agg (nodeD n)) ⟨n, rfl, hn⟩ hS (fun r hr => ?_) fun G hr => ?_
    · simp only [List.mem_cons, List.not_mem_nil, or_false] at hr
      rcases hr with rfl | rfl <;> assumption
    · have r3 := hr _ (.head _)
      have r4 := hr _ (.tail _ (.head _))
      unfold OR.own OR.row at r3 r4
      simp only at r3 r4
      rw [e3] at r3; rw [e4] at r4
      unfold nodeD
      rw [hn.leaf, hn.vals]
      exact AtLe.agg (.cons .same (.cons .same (.cons .nilrow (.cons r4 (.cons r3 .nil)))))⟩
/-! ### dumbwaiterlaw22.Inner -/
/-- What is told of such a node. -/
structure InnerN (c : CfgV) (n : NodeV) : Prop where
  leaf : n.leaf = false
  srt : Srt n.keys
  klen : (n.keys.length : Int) ≤ c.f + 1
  kb : ∀ k ∈ n.keys, k.length ≤ 2
  vals : n.vals = []
  kids : n.kids.length = n.keys.length + 1
  mlen : (n.msgs.length : Int) ≤ c.m + c.c
  msg : ∀ m ∈ n.msgs, m.1 ≠ 0 ∧ m.2.1.length ≤ 2 ∧ m.2.2.length ≤ 8
end Go.Proofs.ZtLe
namespace Go.Proofs.ZtLe
open Go.RowKit Go.Proofs Go.Proofs.Zm
set_option linter.unusedVariables false
set_option linter.unusedSimpArgs false
set_option maxHeartbeats 20000000
set_option maxRecDepth 100000
attribute [local irreducible] ZWp ZOps ZPure ZPure0 ZVal ZOp SoundF

/-! ### plain laws of ways, of a node with a kid more, of what is taken -/
theorem lt_snoc : ∀ (a : Bs) (x : UInt8), lt a (a ++ [x]) = true
  | [], x => rfl
  | c :: a, x => by
    rw [List.cons_append, lt_cons, lt_snoc a x]; simp
section
variable {l : List Bs} {k : Nat}
theorem srt_ins (hs : Srt l) (hk : k ≤ l.length) {p : Bs} (h1 : ∀ i (h : i < l.length), i < k → lt l[i] p = true) (h2 : ∀ i (h : i < l.length), k ≤ i → lt p l[i] = true) : Srt (insAt l k p) := by
  unfold insAt Srt
  have hs' : Srt (l.take k ++ l.drop k) := by rw [List.take_append_drop]; exact hs
  obtain ⟨a1, a2, a3⟩ := List.pairwise_append.1 hs'
  refine List.pairwise_append.2 ⟨List.pairwise_append.2 ⟨a1, List.pairwise_singleton _ _, fun a ha b hb => ?_⟩, a2, fun a ha b hb => ?_⟩
  · simp only [List.mem_singleton] at hb; subst hb
    obtain ⟨i, hi, rfl⟩ := List.mem_iff_getElem.1 ha
    rw [List.length_take] at hi
    rw [List.getElem_take]
    exact h1 i (by omega) (by omega)
  · rcases List.mem_append.1 ha with ha | ha
    · exact a3 a ha b hb
    · simp only [List.mem_singleton] at ha; subst ha
      obtain ⟨i, hi, rfl⟩ := List.mem_iff_getElem.1 hb
      rw [List.length_drop] at hi
      rw [List.getElem_drop]
      exact h2 (k + i) (by omega) (by omega)
end
theorem mine_take (keys : List Bs) (k most : Nat) (l : List MsgV) : (mineL keys k most l).1 = (l.filter fun m => wayL keys m.2.1 == k).take most := by
  induction l using rev_ind with
  | h0 => simp [mineL]
  | h1 l m ih =>
    rw [mineL_app, List.filter_append, ih, List.length_take]
    by_cases hw : wayL keys m.2.1 = k
    · simp only [hw, and_true, List.filter_cons, beq_self_eq_true, if_true, List.filter_nil]
      split
      · rename_i hh
        simp only
        rw [List.take_of_length_le (by omega), List.take_of_length_le (by simp; omega)]
      · rename_i hh
        simp only
        rw [List.take_append_of_le_length (by omega)]
    · simp [hw, List.filter_cons]
end Go.Proofs.ZtLe
namespace Go.Proofs.ZtLe
open Go.RowKit Go.Proofs Go.Proofs.Zm
set_option linter.unusedVariables false
set_option linter.unusedSimpArgs false
set_option maxHeartbeats 20000000
set_option maxRecDepth 100000
attribute [local irreducible] ZWp ZOps ZPure ZPure0 ZVal ZOp SoundF

/-! ### mesg.Apply -/
def applyL (p : List PairV) (l : List MsgV) : List PairV := l.foldl oneL p
theorem applyL_snoc (p : List PairV) (l : List MsgV) (m : MsgV) : applyL p (l ++ [m]) = oneL (applyL p l) m := by unfold applyL; rw [List.foldl_append]; rfl
theorem keysP_append (a b : List PairV) : keysP (a ++ b) = keysP a ++ keysP b := by simp [keysP]
theorem keysP_take (a : List PairV) (i : Nat) : keysP (a.take i) = (keysP a).take i := by simp [keysP, List.map_take]
theorem keysP_drop (a : List PairV) (i : Nat) : keysP (a.drop i) = (keysP a).drop i := by simp [keysP, List.map_drop]
theorem oneL_srt {ps : List PairV} {m : MsgV} (hs : Srt (keysP ps)) : Srt (keysP (oneL ps m)) := by
  have hcl := cnt_le (keysP ps) m.2.1
  unfold oneL
  simp only
  split
  · rename_i hth
    obtain ⟨v, hv⟩ := thereP_get hth
    split
    · have : keysP (ps.set (cnt (keysP ps) m.2.1) (m.2.1, (foldM (wasP ps m.2.1) (thereP ps m.2.1) [m]).1)) = keysP ps := by
        unfold keysP
        rw [List.map_set]
        apply List.ext_getElem?
        intro j
        rw [List.getElem?_set]
        split
        · rename_i hj
          subst hj
          rw [List.getElem?_map]
          unfold keysP at hv
          rw [hv]
          split
          · rfl
          · rename_i hh
            have := (List.getElem?_eq_some_iff.1 hv).1
            simp at hh; omega
        · rfl
      rw [this]; exact hs
    · rw [keysP_append, keysP_take, keysP_drop]
      have h1 : ((keysP ps).take (cnt (keysP ps) m.2.1) ++ (keysP ps).drop (cnt (keysP ps) m.2.1 + 1)).Sublist (keysP ps) := by
        have : (keysP ps).take (cnt (keysP ps) m.2.1) ++ (keysP ps).drop (cnt (keysP ps) m.2.1 + 1) = (keysP ps).eraseIdx (cnt (keysP ps) m.2.1) := (List.eraseIdx_eq_take_drop_succ _ _).symm
        rw [this]; exact List.eraseIdx_sublist _ _
      exact List.Pairwise.sublist h1 hs
  · rename_i hth
    split
    · have e : keysP (ps.take (cnt (keysP ps) m.2.1) ++ (m.2.1, (foldM (wasP ps m.2.1) (thereP ps m.2.1) [m]).1) :: ps.drop (cnt (keysP ps) m.2.1)) = insAt (keysP ps) (cnt (keysP ps) m.2.1) m.2.1 := by
        unfold insAt; simp [keysP, List.map_take, List.map_drop]
      rw [e]
      refine srt_ins hs hcl (fun j hj hji => (cnt_iff hs m.2.1 hj).2 hji) fun j hj hji => ?_
      have hnk : ¬ (keysP ps)[cnt (keysP ps) m.2.1]? = some m.2.1 := fun h => hth (by unfold thereP; exact decide_eq_true h)
      have hc : cnt (keysP ps) m.2.1 < (keysP ps).length := by omega
      have h0 : lt m.2.1 ((keysP ps)[cnt (keysP ps) m.2.1]) = true := by
        have h1 : ¬ lt ((keysP ps)[cnt (keysP ps) m.2.1]) m.2.1 = true := fun h => by have := (cnt_iff hs m.2.1 hc).1 h; omega
        rcases lt_le (by simpa using h1) with h | h
        · exact absurd (by rw [List.getElem?_eq_getElem hc, h]) hnk
        · exact h
      rcases Nat.lt_or_ge (cnt (keysP ps) m.2.1) j with q | q
      · exact lt_trans h0 (hs.get q hj)
      · have e : j = cnt (keysP ps) m.2.1 := by omega
        subst e; exact h0
    · exact hs
def applyOwn : ZSpec := fun args st K => ∃ (p : List PairV) (l : List MsgV) (tp tl : Nat), args = [.row (pairR p) 2 tp, .row (msgR l) 3 tl] ∧ p.length ≤ 1000000 ∧ l.length ≤ 1000000 ∧ Srt (keysP p) ∧ (∀ q ∈ p, PB q) ∧ (∀ m ∈ l, MB m) ∧
  ∀ o c f st', Sep st st' [(o, f)] → GRow o f 2 (applyL p l).length c (pairR (applyL p l)).flatten → K (orow o (applyL p l).length c) st'
end Go.Proofs.ZtLe
namespace Go.Proofs.ZtLe
open Go.RowKit Go.Proofs Go.Proofs.Zm
set_option linter.unusedVariables false
set_option linter.unusedSimpArgs false
set_option maxHeartbeats 20000000
set_option maxRecDepth 100000
attribute [local irreducible] ZWp ZOps ZPure ZPure0 ZVal ZOp SoundF

/-! ### dumbwaiterref18: Find, SamePairs, Set -/
def findL (p : List PairV) (k : Bs) : Bs × Bool := match p.find? (fun x => x.1 == k) with
  | some x => (x.2, true)
  | none => ([], false)
theorem find_take {p : List PairV} {k : Bs} {i : Nat} (h : ∀ j (hj : j < p.length), j < i → (p[j].1 == k) = false) : (p.take i).find? (fun x => x.1 == k) = none := by
  rw [List.find?_eq_none]
  intro x hx
  obtain ⟨j, hj, rfl⟩ := List.mem_iff_getElem.1 hx
  rw [List.length_take] at hj
  rw [List.getElem_take, h j (by omega) (by omega)]; simp
/-! ### dumbwaiterref18.Set -/
def stepS (k v : Bs) (there : Bool) (s : Bool × List PairV) (x : PairV) : Bool × List PairV :=
  if (x.1 == k) = true then (if there = true then (true, (if (!s.1 && lt k x.1) = true then s.2 ++ [(k, v)] else s.2) ++ [(k, v)]) else (if (!s.1 && lt k x.1) = true then (true, s.2 ++ [(k, v)]) else s))
  else (s.1 || lt k x.1, (if (!s.1 && lt k x.1) = true then s.2 ++ [(k, v)] else s.2) ++ [x])
def setTo (k v : Bs) (there : Bool) (p : List PairV) : Bool × List PairV := p.foldl (stepS k v there) (!there, [])
def setL (p : List PairV) (k v : Bs) (there : Bool) : List PairV := if (setTo k v there p).1 = true then (setTo k v there p).2 else (setTo k v there p).2 ++ [(k, v)]
theorem setTo_snoc (k v : Bs) (there : Bool) (p : List PairV) (x : PairV) : setTo k v there (p ++ [x]) = stepS k v there (setTo k v there p) x := by unfold setTo; rw [List.foldl_append]; rfl
end Go.Proofs.ZtLe
