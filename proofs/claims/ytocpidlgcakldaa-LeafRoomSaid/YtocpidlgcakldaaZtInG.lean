/- A part of the proof of LeafRoom: walks of the functions that it reaches. No condition. -/
import Derived.Test.YtocpidlgcakldaaZtInF
import Derived.Test.YtocpidlgcakldaaZmAuto
namespace Go.Proofs.ZtLe
open Go.RowKit Go.Proofs Go.Proofs.Zm
set_option linter.unusedVariables false
set_option linter.unusedSimpArgs false
set_option maxHeartbeats 20000000
set_option maxRecDepth 100000
attribute [local irreducible] ZWp ZOps ZPure ZPure0 ZVal ZOp SoundF

/-! ### slices.Delete of pairs -/
def delSpec (k : Nat) : ZSpec := fun args st K => ∃ (o : Option Nat) (n c i j : Nat) (full cells : List D), args = [orow o n c, .v (.int .i64 (i : Nat)), .v (.int .i64 (j : Nat))] ∧ i < j ∧ j ≤ n ∧ n ≤ 2147483648 ∧ OwnA st [(o, full)] ∧ GRow o full k n c cells ∧
  ∀ o' c' full' st', Sep (bareL st [(o, full)]) st' [(o', full')] → GRow o' full' k (i + (n - j)) c' (cells.take (i * k) ++ cells.drop (j * k)) → K (orow o' (i + (n - j)) c') st'
theorem del_snd : SoundF Try.prog 99 (delSpec 2) := by
  refine sound_ofA Try.func99 rfl Try.results99 ?_
  rintro w0 args st K ⟨o, n, c, i, j, full, cells, rfl, hij, hjn, hn, hA, hg, hK⟩
  rw [Try.ntmps99]; refine ⟨by simp, ?_⟩
  have hS := hA.sep
  have hroom := hg.room
  obtain ⟨id, rfl⟩ := hg.isBlock (by omega)
  have hfl := hg.len
  have gi : decide ((i : Int) = (j : Int)) = false := decide_eq_false (by omega)
  have hmul : (i + (n - j)) * 2 = n * 2 - (j * 2 - i * 2) := by omega
  (repeat (first | ((with_reducible apply zr_seq)) | ((with_reducible apply zr_region); (try simp only [List.append_eq, List.cons_append, List.nil_append])) | ((with_reducible apply zo_end)) | ((with_reducible apply zs_move); (exact rfl); (exact rfl)) | ((with_reducible apply zs_assign); (exact rfl); (exact rfl)) | ((with_reducible apply zs_len_mrow); (exact rfl); (exact rfl); (exact un_sl rfl))))
  (try ((with_reducible apply zs_yes); exact rfl; exact rfl; (first | assumption | exact rfl))); refine zo_pure0 rfl rfl (by decide) (zp_cut3O rfl zq39 (ii_of (k := 2) rfl) rfl ⟨.i64, rfl⟩ rfl rfl (by omega) hjn hroom (by omega)) ?_
  (repeat (first | ((with_reducible apply zr_seq)) | ((with_reducible apply zr_region); (try simp only [List.append_eq, List.cons_append, List.nil_append])) | ((with_reducible apply zo_end)) | ((with_reducible apply zs_move); (exact rfl); (exact rfl)) | ((with_reducible apply zs_assign); (exact rfl); (exact rfl)) | ((with_reducible apply zs_eql); (exact rfl); (exact rfl); (exact rfl)) | ((with_reducible apply zr_cond_f); (exact rfl); (first | assumption | exact rfl)) | ((with_reducible apply zr_skip')) | ((with_reducible apply zs_len_mrow); (exact rfl); (exact rfl); (exact un_sl rfl))))
  have hcore : ∀ G : List D, (full.take (i * 2) ++ (full.drop (j * 2)).take (n * 2 - j * 2) ++ G).take ((i + (n - j)) * 2) = cells.take (i * 2) ++ cells.drop (j * 2) := fun G => by
    rw [hmul, del_room full (i * 2) (j * 2) (n * 2) (by omega) (by omega) (by omega), hg.cells]
  refine zr_cutK [7] (fun e s => ∃ F, e = [(0, .mrow id 0 (i + (n - j)) c)] ∧ Zm.Sep (bareL st [(some id, full)]) s [(some id, F)] ∧ F.length = full.length ∧ F.take ((i + (n - j)) * 2) = cells.take (i * 2) ++ cells.drop (j * 2)) zq22 ?_ ?_
  · rcases Nat.eq_or_lt_of_le (Nat.le_trans hjn hroom) with hc | hc
    · have hjn2 : j = n := by omega
      subst hjn2
      refine zc_begin (m := 8) ([]) [] zq41 rfl ?_
      refine zc_take0 (i := 0) rfl zq41 zq41 zq41 zq41 zq29 rfl rfl (ZPure0.pure (zp_move rfl rfl)) ?_
      refine zc_take0 (i := 1) rfl zq41 zq41 zq41 zq41 zq29 rfl rfl (ZPure0.pure (zp_move rfl rfl)) ?_
      first | (refine zc_take0 (i := 2) rfl zq41 zq41 zq41 zq41 zq29 rfl rfl (ZPure0.pure (zp_cBhi rfl zq39 zq37 rfl rfl zq11 zq11 zq27 )) ?_) | (refine zc_take0 (i := 2) rfl zq41 zq41 zq41 zq41 zq29 rfl rfl (ZPure0.pure (zp_cRhi rfl zq39 zq37 rfl rfl zq11 zq11 zq27 )) ?_) | (refine zc_take0 (i := 2) rfl zq41 zq41 zq41 zq41 zq29 rfl rfl (ZPure0.pure (zp_cMhi rfl zq39 zq37 rfl rfl zq11 zq11 zq27 )) ?_)
      refine zc_take0 (i := 3) rfl zq41 zq41 zq41 zq41 zq29 rfl rfl (ZPure0.pure (zp_move rfl rfl)) ?_
      refine zc_take0 (i := 4) rfl zq41 zq41 zq41 zq41 zq29 rfl rfl (ZPure0.pure (zp_move rfl rfl)) ?_
      first | (refine zc_take0 (i := 5) rfl zq41 zq41 zq41 zq41 zq29 rfl rfl (ZPure0.pure (zp_cBlo rfl zq39 zq37 rfl rfl zq11 zq11 zq27 )) ?_) | (refine zc_take0 (i := 5) rfl zq41 zq41 zq41 zq41 zq29 rfl rfl (ZPure0.pure (zp_cRlo rfl zq39 zq37 rfl rfl zq11 zq11 zq27 )) ?_) | (refine zc_take0 (i := 5) rfl zq41 zq41 zq41 zq41 zq29 rfl rfl (ZPure0.pure (zp_cMlo rfl zq39 zq37 rfl rfl zq11 zq11 zq11 zq18 zq27)) ?_) | (refine zc_take0 (i := 5) rfl zq41 zq41 zq41 zq41 zq29 rfl rfl (ZPure0.pure (zp_cME rfl zq39 zq37 rfl rfl zq11 zq11 )) ?_)
      skip
      refine zc_one_val (i := 6) (fun _ => by first | assumption | (repeat (first | exact BOwn.nil _ | refine BOwn.cons zq7 ?_))) zq41 rfl zq29 rfl rfl (zv_sappO (i := 0) (j := 0) (full.take (i * 2) ++ [] ++ full.drop (i * 2)) rfl rfl rfl zq39 (el_of rfl) hS rfl rfl (by omega) (by omega) (by omega) (by simp) fun sS hS => ?_)
      refine zc_take0 (i := 7) rfl zq41 zq41 zq41 zq41 zq29 rfl rfl (ZPure0.pure (zp_assign rfl rfl)) ?_
      first | refine zc_end (fun _ => by first | assumption | (repeat (first | exact BOwn.nil _ | refine BOwn.cons zq7 ?_))) zq41 ?_ | refine zc_endB (fun _ => by first | assumption | (repeat (first | exact BOwn.nil _ | refine BOwn.cons zq7 ?_))) zq41 ?_ | refine zc_endBB (fun _ => by first | assumption | (repeat (first | exact BOwn.nil _ | refine BOwn.cons zq7 ?_))) zq41 ?_ | refine zc_done (fun _ => by first | assumption | (repeat (first | exact BOwn.nil _ | refine BOwn.cons zq7 ?_))) zq41 ?_
      refine ⟨_, ⟨_, by rw [Nat.sub_self], hS, by simp, ?_⟩, zq26, zq26⟩
      have := hcore (full.drop (i * 2))
      rw [Nat.sub_self (j * 2), List.take_zero] at this
      exact this
    · refine zc_begin (m := 8) ([]) [] zq41 rfl ?_
      refine zc_take0 (i := 0) rfl zq41 zq41 zq41 zq41 zq29 rfl rfl (ZPure0.pure (zp_move rfl rfl)) ?_
      refine zc_take0 (i := 1) rfl zq41 zq41 zq41 zq41 zq29 rfl rfl (ZPure0.pure (zp_move rfl rfl)) ?_
      first | (refine zc_take0 (i := 2) rfl zq41 zq41 zq41 zq41 zq29 rfl rfl (ZPure0.pure (zp_cBhi rfl zq39 zq37 rfl rfl zq11 zq11 zq27 )) ?_) | (refine zc_take0 (i := 2) rfl zq41 zq41 zq41 zq41 zq29 rfl rfl (ZPure0.pure (zp_cRhi rfl zq39 zq37 rfl rfl zq11 zq11 zq27 )) ?_) | (refine zc_take0 (i := 2) rfl zq41 zq41 zq41 zq41 zq29 rfl rfl (ZPure0.pure (zp_cMhi rfl zq39 zq37 rfl rfl zq11 zq11 zq27 )) ?_)
      refine zc_take0 (i := 3) rfl zq41 zq41 zq41 zq41 zq29 rfl rfl (ZPure0.pure (zp_move rfl rfl)) ?_
      refine zc_take0 (i := 4) rfl zq41 zq41 zq41 zq41 zq29 rfl rfl (ZPure0.pure (zp_move rfl rfl)) ?_
      first | (refine zc_take0 (i := 5) rfl zq41 zq41 zq41 zq41 zq29 rfl rfl (ZPure0.pure (zp_cBlo rfl zq39 zq37 rfl rfl zq11 zq11 zq27 )) ?_) | (refine zc_take0 (i := 5) rfl zq41 zq41 zq41 zq41 zq29 rfl rfl (ZPure0.pure (zp_cRlo rfl zq39 zq37 rfl rfl zq11 zq11 zq27 )) ?_) | (refine zc_take0 (i := 5) rfl zq41 zq41 zq41 zq41 zq29 rfl rfl (ZPure0.pure (zp_cMlo rfl zq39 zq37 rfl rfl zq11 zq11 zq11 zq18 zq27)) ?_) | (refine zc_take0 (i := 5) rfl zq41 zq41 zq41 zq41 zq29 rfl rfl (ZPure0.pure (zp_cME rfl zq39 zq37 rfl rfl zq11 zq11 )) ?_)
      skip
      refine zc_one_val (i := 6) (fun _ => by first | assumption | (repeat (first | exact BOwn.nil _ | refine BOwn.cons zq7 ?_))) zq41 rfl zq29 rfl rfl (zv_sappO (i := 0) (j := 0) (full.take (i * 2) ++ (full.drop (j * 2)).take (n * 2 - j * 2) ++ full.drop (i * 2 + (n - j) * 2)) rfl rfl rfl zq39 (el_of rfl) hS rfl rfl (by omega) (by omega) (by omega) (by rw [Nat.zero_add, Nat.sub_mul]) fun sS hS => ?_)
      refine zc_take0 (i := 7) rfl zq41 zq41 zq41 zq41 zq29 rfl rfl (ZPure0.pure (zp_assign rfl rfl)) ?_
      first | refine zc_end (fun _ => by first | assumption | (repeat (first | exact BOwn.nil _ | refine BOwn.cons zq7 ?_))) zq41 ?_ | refine zc_endB (fun _ => by first | assumption | (repeat (first | exact BOwn.nil _ | refine BOwn.cons zq7 ?_))) zq41 ?_ | refine zc_endBB (fun _ => by first | assumption | (repeat (first | exact BOwn.nil _ | refine BOwn.cons zq7 ?_))) zq41 ?_ | refine zc_done (fun _ => by first | assumption | (repeat (first | exact BOwn.nil _ | refine BOwn.cons zq7 ?_))) zq41 ?_
      refine ⟨_, ⟨_, rfl, hS, ?_, hcore _⟩, zq26, zq26⟩
      rw [seg_len _ _ _ _ (by rw [List.length_take, List.length_drop]; omega) (by omega)]
  rintro e s ⟨F, rfl, hS, hFl, hFc⟩
  (repeat (first | ((with_reducible apply zr_seq)) | ((with_reducible apply zr_region); (try simp only [List.append_eq, List.cons_append, List.nil_append])) | ((with_reducible apply zs_move); (exact rfl); (exact rfl)) | ((with_reducible apply zs_len_mrow); (exact rfl); (exact rfl); (exact un_sl rfl)) | ((with_reducible apply zs_cutM); (exact rfl); (exact rfl); (exact un_sl rfl); (exact ii_of rfl); (exact rfl); (exact rfl); (first | omega | (simp only [List.length_map, List.length_take, List.length_drop, List.length_append, List.length_cons, List.length_nil, List.length_replicate, rowR_length, intR_length, msgR_length, pairR_length]; omega) | decide); (first | omega | (simp only [List.length_map, List.length_take, List.length_drop, List.length_append, List.length_cons, List.length_nil, List.length_replicate, rowR_length, intR_length, msgR_length, pairR_length]; omega) | decide); (first | omega | (simp only [List.length_map, List.length_take, List.length_drop, List.length_append, List.length_cons, List.length_nil, List.length_replicate, rowR_length, intR_length, msgR_length, pairR_length]; omega) | decide); (first | (left; omega) | (right; omega) | (left; decide) | (right; simp only [List.length_map, rowR_length, intR_length, msgR_length, pairR_length]; omega)); (first | (with_reducible exact Int.toNat_natCast _) | (simp only [Int.reduceToNat]; exact rfl) | exact rfl); (first | (with_reducible exact Int.toNat_natCast _) | (simp only [Int.reduceToNat]; exact rfl) | exact rfl))))
  refine zo_cons rfl (zop_clear rfl rfl zq39 (el_of rfl) zq35 rfl (hS.at_ (i := 0) rfl) (by omega) ?_)
  replace hS := hS.put (i := 0) rfl (F.take (0 + (i + (n - j)) * 2) ++ (List.replicate (n - (i + (n - j))) [.v (.slice none 0 0), .v (.slice none 0 0)]).flatten ++ F.drop (0 + (i + (n - j)) * 2 + (n - (i + (n - j))) * 2))
  (repeat (first | ((with_reducible apply zr_seq)) | ((with_reducible apply zr_region); (try simp only [List.append_eq, List.cons_append, List.nil_append])) | ((with_reducible apply zo_end)) | ((with_reducible apply zs_move); (exact rfl); (exact rfl)) | ((with_reducible apply zs_assign); (exact rfl); (exact rfl)) | ((with_reducible apply zr_retZ); (exact rfl); (repeat (first | exact resD_nil _ _ _ | ((with_reducible apply resD_tmp); (exact rfl)) | ((with_reducible apply resD_cell_agg); (exact rfl); (exact sh_of rfl); (first | assumption | exact St.setH_self _ _ _ | exact Sep.at_ (i := 0) zq40 rfl | exact Sep.at_ (i := 1) zq40 rfl | exact Sep.at_ (i := 2) zq40 rfl | exact Sep.at_ (i := 3) zq40 rfl | exact Sep.at_ (i := 4) zq40 rfl | exact Sep.at_ (i := 5) zq40 rfl | exact Sep.at_ (i := 6) zq40 rfl); (exact rfl)) | ((with_reducible apply resD_cell); (exact rfl); (exact sh_of rfl); (first | assumption | exact St.setH_self _ _ _ | exact Sep.at_ (i := 0) zq40 rfl | exact Sep.at_ (i := 1) zq40 rfl | exact Sep.at_ (i := 2) zq40 rfl | exact Sep.at_ (i := 3) zq40 rfl | exact Sep.at_ (i := 4) zq40 rfl | exact Sep.at_ (i := 5) zq40 rfl | exact Sep.at_ (i := 6) zq40 rfl); (exact rfl)))); (simp only [resOf]))))
  refine KE.mk _ (Ext.refl _) (hK _ _ _ _ hS ⟨?_, by omega, fun e => (by cases e), ?_⟩)
  · rw [seg_len _ _ _ _ (by rw [flatten_rep (k := 2) rfl]) (by omega), hFl]; exact hfl
  · rw [List.append_assoc, List.take_append_of_le_length (by rw [List.length_take]; omega), List.take_of_length_le (by rw [List.length_take]; omega), Nat.zero_add]
    exact hFc
end Go.Proofs.ZtLe
