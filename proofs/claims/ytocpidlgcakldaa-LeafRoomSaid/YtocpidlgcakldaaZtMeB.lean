/- A part of the proof of LeafRoom: walks of the functions that it reaches. No condition. -/
import Derived.Test.YtocpidlgcakldaaZtMeA
import Derived.Test.YtocpidlgcakldaaZtInD
import Derived.Test.YtocpidlgcakldaaZmAuto
namespace Go.Proofs.ZtLe
open Go.RowKit Go.Proofs Go.Proofs.Zm
set_option linter.unusedVariables false
set_option linter.unusedSimpArgs false
set_option maxHeartbeats 20000000
set_option maxRecDepth 100000
attribute [local irreducible] ZWp ZOps ZPure ZPure0 ZVal ZOp SoundF

/-! ### mesg.Fold -/
theorem fold_pf {v : Bs} {there : Bool} {l : List MsgV} {tv tl : Nat} (h : v.length ≤ 2147483648 ∧ l.length ≤ 2147483648 ∧ ∀ m ∈ l, MB m) : PureF Try.prog 98 [.row (bytesD v) 1 tv, .v (.bool there), .row (msgR l) 3 tl] (.tup [.row (bytesD (foldM v there l).1) 1 0, .v (.bool (foldM v there l).2)]) := by
  obtain ⟨hv, hl, hm⟩ := h
  refine pure_of Try.func98 rfl Try.results98 (by rw [Try.ntmps98]; simp) (fun w0 st K hK => ?_); rw [Try.ntmps98]
  refine zr_as 0 (.row (bytesD v) 1 0) rfl zq8 ?_
  refine zr_as 2 (.row (msgR l) 3 0) rfl zq8 ?_
  have hr1 : (msgR l).length = l.length := msgR_length _
  (repeat (first | ((with_reducible apply zr_seq)) | ((with_reducible apply zr_region); (try simp only [List.append_eq, List.cons_append, List.nil_append])) | ((with_reducible apply zo_end)) | ((with_reducible apply zs_move); (exact rfl); (exact rfl)) | ((with_reducible apply zs_assign); (exact rfl); (exact rfl)) | ((with_reducible apply zs_not); (exact rfl); (exact rfl))))
  refine zr_cutK [1, 2] (fun e s => ∃ d, e = [(0, d)] ∧ DLe d (.row (bytesD (if there = true then v else [])) 1 0) ∧ s = st) zq22 ?_ ?_
  · (first | refine zr_cond rfl (fun h1 => ?_) (fun h1 => ?_) | refine zs_split rfl rfl (fun h1 => ?_) (fun h1 => ?_)) <;> have h1' := h1 <;> (try simp only [decide_eq_true_eq, decide_eq_false_iff_not, Bool.and_eq_true, Bool.or_eq_true, Bool.and_eq_false_iff, Bool.or_eq_false_iff, Bool.not_eq_true', Bool.not_eq_false', Bool.not_eq_true, Bool.not_eq_false, Int.not_le, Int.not_lt, Classical.not_not, Decidable.not_not, ne_eq, beq_iff_eq, bne_iff_ne] at h1')
    · have e : there = false := by simpa using h1'
      subst e
      (repeat (first | ((with_reducible apply zr_region); (try simp only [List.append_eq, List.cons_append, List.nil_append])) | ((with_reducible apply zo_end)) | ((with_reducible apply zs_assign); (exact rfl); (exact rfl))))
      exact ⟨_, ⟨_, rfl, DLe.nilB, rfl⟩, zq26, zq26⟩
    · have e : there = true := by simpa using h1'
      subst e
      (repeat (first | ((with_reducible apply zr_skip'))))
      exact ⟨_, ⟨_, rfl, .refl _, rfl⟩, zq26, zq26⟩
  rintro e s ⟨d, rfl, hd, rfl⟩
  (repeat (first | ((with_reducible apply zr_seq)) | ((with_reducible apply zr_region); (try simp only [List.append_eq, List.cons_append, List.nil_append])) | ((with_reducible apply zo_end)) | ((with_reducible apply zs_move); (exact rfl); (exact rfl)) | ((with_reducible apply zs_len); (exact rfl); (exact rfl); (exact un_sl rfl)) | ((with_reducible apply zr_block))))
  refine zr_loopK [12, 13] (fun m e s' => ∃ i d, m + i = l.length ∧ e = [(0, d), (1, .v (.bool (foldM v there (l.take i)).2)), (14, .v (.int .i64 (i : Nat)))] ∧ DLe d (.row (bytesD (foldM v there (l.take i)).1) 1 0) ∧ s' = s) l.length _ zq22 ⟨0, d, by simp, rfl, hd, rfl⟩ zq26 ?_
  rintro m e s' ⟨i, d, hmi, rfl, hd, rfl⟩
  have hfl := foldM_len (v := v) (there := there) (l := l.take i) (N := 2147483648) hv (by decide) (fun q hq => (hm q (List.mem_of_mem_take hq)).2)
  (repeat (first | ((with_reducible apply zr_seq)) | ((with_reducible apply zr_region); (try simp only [List.append_eq, List.cons_append, List.nil_append])) | ((with_reducible apply zo_end)) | ((with_reducible apply zs_lss); (exact rfl); (exact rfl); (exact rfl))))
  (first | refine zr_cond rfl (fun h1 => ?_) (fun h1 => ?_) | refine zs_split rfl rfl (fun h1 => ?_) (fun h1 => ?_)) <;> have h1' := h1 <;> (try simp only [decide_eq_true_eq, decide_eq_false_iff_not, Bool.and_eq_true, Bool.or_eq_true, Bool.and_eq_false_iff, Bool.or_eq_false_iff, Bool.not_eq_true', Bool.not_eq_false', Bool.not_eq_true, Bool.not_eq_false, Int.not_le, Int.not_lt, Classical.not_not, Decidable.not_not, ne_eq, beq_iff_eq, bne_iff_ne] at h1')
  · obtain ⟨b, hb, hbt, _, hbg⟩ := eltM (l := l) (i := i) (by omega)
    have hbm := hm b (List.mem_of_getElem? hb)
    have hb2 := hbm.2
    have hsu : foldM v there (l.take (i + 1)) = stepM (foldM v there (l.take i)) b := by rw [hbt, foldM_snoc]
    unfold stepM at hsu
    generalize foldM v there (l.take i) = S at *
    refine zr_as 0 (.row (bytesD S.1) 1 0) rfl hd ?_
    (repeat (first | ((with_reducible apply zr_seq)) | ((with_reducible apply zr_region); (try simp only [List.append_eq, List.cons_append, List.nil_append])) | ((with_reducible apply zo_end)) | ((with_reducible apply zs_assign); (exact rfl); (exact rfl)) | ((with_reducible apply zs_eql); (exact rfl); (exact rfl); (exact rfl)) | ((with_reducible apply zr_block)) | ((with_reducible apply zr_skip')) | ((with_reducible apply zs_field_ref); (exact rfl); (exact rfl); (exact fld_of rfl)) | ((with_reducible apply zs_load_ref); (exact rfl); (exact rfl); (exact sh_of rfl); (exact rfl)) | ((with_reducible apply zs_load_refAll); (exact rfl); (exact rfl); (exact sh_of rfl); (exact rfl)) | ((with_reducible apply zs_idxE); (exact rfl); (exact rfl); (exact rfl); (exact un_sl rfl); (exact ii_of rfl); (first | omega | (simp only [List.length_map, List.length_take, List.length_drop, List.length_append, List.length_cons, List.length_nil, List.length_replicate, rowR_length, intR_length, msgR_length, pairR_length]; omega) | decide); (first | omega | (simp only [List.length_map, List.length_take, List.length_drop, List.length_append, List.length_cons, List.length_nil, List.length_replicate, rowR_length, intR_length, msgR_length, pairR_length]; omega) | decide); (first | (with_reducible exact Int.toNat_natCast _) | (simp only [Int.reduceToNat]; exact rfl) | exact rfl); (assumption)) | ((with_reducible apply (zs_allocRef (t := 9))); (exact el_of rfl); (simp [oneD, Value.oneCell']); (exact sh_of rfl); (exact rfl); (intro _; exact rfl); (exact rfl); (simp [cellsD, oneD, Value.oneCell', msgD, nodeD, pairD, cfgD]))))
    (first | refine zr_cond rfl (fun h2 => ?_) (fun h2 => ?_) | refine zs_split rfl rfl (fun h2 => ?_) (fun h2 => ?_)) <;> have h2' := h2 <;> (try simp only [decide_eq_true_eq, decide_eq_false_iff_not, Bool.and_eq_true, Bool.or_eq_true, Bool.and_eq_false_iff, Bool.or_eq_false_iff, Bool.not_eq_true', Bool.not_eq_false', Bool.not_eq_true, Bool.not_eq_false, Int.not_le, Int.not_lt, Classical.not_not, Decidable.not_not, ne_eq, beq_iff_eq, bne_iff_ne] at h2')
    · rw [if_pos h2'] at hsu
      (repeat (first | ((with_reducible apply zr_region); (try simp only [List.append_eq, List.cons_append, List.nil_append])) | ((with_reducible apply zo_end)) | ((with_reducible apply zo_endBB)) | ((with_reducible apply zs_move); (exact rfl); (exact rfl)) | ((with_reducible apply zs_assign); (exact rfl); (exact rfl)) | ((with_reducible apply zs_add); (exact rfl); (exact rfl); (exact rfl); (first | (with_reducible assumption) | exact wrap_in64 (by omega) (by omega))) | ((with_reducible apply zs_field_ref); (exact rfl); (exact rfl); (exact fld_of rfl)) | ((with_reducible apply zs_load_ref); (exact rfl); (exact rfl); (exact sh_of rfl); (exact rfl))))
      exact ⟨m - 1, _, by omega, ⟨i + 1, .row (bytesD b.2.2) 1 0, by omega, rfl, by rw [hsu]; first | exact .refl _ | exact DLe.nilB, rfl⟩, zq21, zq26⟩
    · rw [if_neg h2'] at hsu
      (repeat (first | ((with_reducible apply zr_seq)) | ((with_reducible apply zr_region); (try simp only [List.append_eq, List.cons_append, List.nil_append])) | ((with_reducible apply zo_end)) | ((with_reducible apply zs_assign); (exact rfl); (exact rfl)) | ((with_reducible apply zs_eql); (exact rfl); (exact rfl); (exact rfl))))
      (first | refine zr_cond rfl (fun h3 => ?_) (fun h3 => ?_) | refine zs_split rfl rfl (fun h3 => ?_) (fun h3 => ?_)) <;> have h3' := h3 <;> (try simp only [decide_eq_true_eq, decide_eq_false_iff_not, Bool.and_eq_true, Bool.or_eq_true, Bool.and_eq_false_iff, Bool.or_eq_false_iff, Bool.not_eq_true', Bool.not_eq_false', Bool.not_eq_true, Bool.not_eq_false, Int.not_le, Int.not_lt, Classical.not_not, Decidable.not_not, ne_eq, beq_iff_eq, bne_iff_ne] at h3')
      · rw [if_pos h3'] at hsu
        (repeat (first | ((with_reducible apply zr_region); (try simp only [List.append_eq, List.cons_append, List.nil_append])) | ((with_reducible apply zo_end)) | ((with_reducible apply zo_endBB)) | ((with_reducible apply zs_move); (exact rfl); (exact rfl)) | ((with_reducible apply zs_assign); (exact rfl); (exact rfl)) | ((with_reducible apply zs_add); (exact rfl); (exact rfl); (exact rfl); (first | (with_reducible assumption) | exact wrap_in64 (by omega) (by omega)))))
        exact ⟨m - 1, _, by omega, ⟨i + 1, .v (.slice none 0 0), by omega, rfl, by rw [hsu]; first | exact .refl _ | exact DLe.nilB, rfl⟩, zq21, zq26⟩
      · rw [if_neg h3'] at hsu
        (repeat (first | ((with_reducible apply zr_seq)) | ((with_reducible apply zr_region); (try simp only [List.append_eq, List.cons_append, List.nil_append])) | ((with_reducible apply zo_end)) | ((with_reducible apply zs_assign); (exact rfl); (exact rfl)) | ((with_reducible apply zs_eql); (exact rfl); (exact rfl); (exact rfl))))
        (first | refine zr_cond rfl (fun h4 => ?_) (fun h4 => ?_) | refine zs_split rfl rfl (fun h4 => ?_) (fun h4 => ?_)) <;> have h4' := h4 <;> (try simp only [decide_eq_true_eq, decide_eq_false_iff_not, Bool.and_eq_true, Bool.or_eq_true, Bool.and_eq_false_iff, Bool.or_eq_false_iff, Bool.not_eq_true', Bool.not_eq_false', Bool.not_eq_true, Bool.not_eq_false, Int.not_le, Int.not_lt, Classical.not_not, Decidable.not_not, ne_eq, beq_iff_eq, bne_iff_ne] at h4')
        · rw [if_pos h4'] at hsu
          have ha := addN_lt (ofN S.1) (ofN b.2.2)
          skip
          refine zc_begin (m := 9) ([]) [] zq41 rfl ?_
          refine zc_take0 (i := 0) rfl zq41 zq41 zq41 zq41 zq29 rfl rfl (ZPure0.pure (zp_move rfl rfl)) ?_
          refine zc_take0 (i := 2) rfl zq41 zq41 zq41 zq41 zq29 rfl rfl zq20 ?_
          first | (refine zc_take0 (i := 3) rfl zq41 zq41 zq41 zq41 zq29 rfl rfl (zp_load_ref rfl zq38 rfl rfl) ?_) | (refine zc_take0 (i := 3) rfl zq41 zq41 zq41 zq41 zq29 rfl rfl (zp_load_refAll rfl zq38 rfl rfl) ?_) | (refine zc_take (i := 3) rfl zq41 zq41 zq41 zq41 zq41 zq41 zq29 rfl rfl (zpb_load rfl zq38 rfl (.head _) rfl zq33) ?_) | (refine zc_take (i := 3) rfl zq41 zq41 zq41 zq41 zq41 zq41 zq29 rfl rfl (zpb_load rfl zq38 rfl (.tail _ (.head _)) rfl zq33) ?_) | (refine zc_take (i := 3) rfl zq41 zq41 zq41 zq41 zq41 zq41 zq29 rfl rfl (zpb_load rfl zq38 rfl (.tail _ (.tail _ (.head _))) rfl zq33) ?_) | (refine zc_take (i := 3) rfl zq41 zq41 zq41 zq41 zq41 zq41 zq29 rfl rfl (zpb_load_agg rfl zq38 rfl (.head _) rfl rfl zq32) ?_) | (refine zc_take (i := 3) rfl zq41 zq41 zq41 zq41 zq41 zq41 zq29 rfl rfl (zpb_load_agg rfl zq38 rfl (.tail _ (.head _)) rfl rfl zq32) ?_) | (refine zc_take (i := 3) rfl zq41 zq41 zq41 zq41 zq41 zq41 zq29 rfl rfl (zpb_load_agg rfl zq38 rfl (.tail _ (.tail _ (.head _))) rfl rfl zq32) ?_)
          refine zc_one (i := 1) (fun _ => by first | assumption | (repeat (first | exact BOwn.nil _ | refine BOwn.cons zq7 ?_))) zq41 rfl zq29 (zop_callQ flof_pf cl_107 rfl rfl (by decide) rfl rfl zq23 zq15 ?_)
          refine zc_one (i := 4) (fun _ => by first | assumption | (repeat (first | exact BOwn.nil _ | refine BOwn.cons zq7 ?_))) zq41 rfl zq29 (zop_callQ flof_pf cl_107 rfl rfl (by decide) rfl rfl zq23 zq15 ?_)
          refine zc_one (i := 5) (fun _ => by first | assumption | (repeat (first | exact BOwn.nil _ | refine BOwn.cons zq7 ?_))) zq41 rfl zq29 (zop_callQ fladd_pf cl_106 rfl rfl (by decide) rfl rfl zq23 zq15 ?_)
          refine zc_one (i := 6) (fun _ => by first | assumption | (repeat (first | exact BOwn.nil _ | refine BOwn.cons zq7 ?_))) zq41 rfl zq29 (zop_callQ flbytes_pf cl_105 rfl rfl (by decide) rfl rfl zq23 zq15 ?_)
          refine zc_take0 (i := 7) rfl zq41 zq41 zq41 zq41 zq29 rfl rfl (ZPure0.pure (zp_assign rfl rfl)) ?_
          refine zc_take0 (i := 8) rfl zq41 zq41 zq41 zq41 zq29 rfl rfl (ZPure0.pure (zp_assign rfl rfl)) ?_
          first | refine zc_end (fun _ => by first | assumption | (repeat (first | exact BOwn.nil _ | refine BOwn.cons zq7 ?_))) zq41 ?_ | refine zc_endB (fun _ => by first | assumption | (repeat (first | exact BOwn.nil _ | refine BOwn.cons zq7 ?_))) zq41 ?_ | refine zc_endBB (fun _ => by first | assumption | (repeat (first | exact BOwn.nil _ | refine BOwn.cons zq7 ?_))) zq41 ?_ | refine zc_done (fun _ => by first | assumption | (repeat (first | exact BOwn.nil _ | refine BOwn.cons zq7 ?_))) zq41 ?_
          (repeat (first | ((with_reducible apply zr_region); (try simp only [List.append_eq, List.cons_append, List.nil_append])) | ((with_reducible apply zo_end)) | ((with_reducible apply zs_move); (exact rfl); (exact rfl)) | ((with_reducible apply zs_add); (exact rfl); (exact rfl); (exact rfl); (first | (with_reducible assumption) | exact wrap_in64 (by omega) (by omega)))))
          exact ⟨m - 1, _, by omega, ⟨i + 1, .row (bytesD (bytesN (addN (ofN S.1) (ofN b.2.2)))) 1 0, by omega, rfl, by rw [hsu]; first | exact .refl _ | exact DLe.nilB, rfl⟩, zq21, zq26⟩
        · rw [if_neg h4'] at hsu
          skip
          refine zr_skipBB ?_
          (repeat (first | ((with_reducible apply zr_region); (try simp only [List.append_eq, List.cons_append, List.nil_append])) | ((with_reducible apply zo_end)) | ((with_reducible apply zs_move); (exact rfl); (exact rfl)) | ((with_reducible apply zs_add); (exact rfl); (exact rfl); (exact rfl); (first | (with_reducible assumption) | exact wrap_in64 (by omega) (by omega)))))
          exact ⟨m - 1, _, by omega, ⟨i + 1, .row (bytesD S.1) 1 0, by omega, rfl, by rw [hsu]; first | exact .refl _ | exact DLe.nilB, rfl⟩, zq21, zq26⟩
  · have hi : i = l.length := by omega
    subst hi
    rw [List.take_length] at hd ⊢
    refine zr_as 0 (.row (bytesD (foldM v there l).1) 1 0) rfl hd ?_
    rw [List.take_length] at hfl
    (repeat (first | ((with_reducible apply zr_seq)) | ((with_reducible apply zr_region); (try simp only [List.append_eq, List.cons_append, List.nil_append])) | ((with_reducible apply zo_end)) | ((with_reducible apply zs_move); (exact rfl); (exact rfl)) | ((with_reducible apply zs_assign); (exact rfl); (exact rfl)) | (with_reducible refine zr_exit ?_; simp only [Zthen, Zblock, ↓reduceIte]) | ((with_reducible apply (zs_callQ clone_pf cl_68)); (exact rfl); (exact rfl); ((repeat (first | exact DLes.nil | (apply DLes.cons; first | exact DLe.refl _ | exact DLe.nilB | exact DLe.nilR | exact DLe.nilI)))); (first | exact trivial | assumption | ((repeat' (with_reducible refine And.intro ?_ ?_)) <;> first | assumption | omega | exact trivial | (simp; done) | (simp; omega)))) | ((with_reducible apply zr_retZ); (exact rfl); (repeat (first | exact resD_nil _ _ _ | ((with_reducible apply resD_tmp); (exact rfl)) | ((with_reducible apply resD_cell_agg); (exact rfl); (exact sh_of rfl); (first | assumption | exact St.setH_self _ _ _ | exact Sep.at_ (i := 0) zq40 rfl | exact Sep.at_ (i := 1) zq40 rfl | exact Sep.at_ (i := 2) zq40 rfl | exact Sep.at_ (i := 3) zq40 rfl | exact Sep.at_ (i := 4) zq40 rfl | exact Sep.at_ (i := 5) zq40 rfl | exact Sep.at_ (i := 6) zq40 rfl); (exact rfl)) | ((with_reducible apply resD_cell); (exact rfl); (exact sh_of rfl); (first | assumption | exact St.setH_self _ _ _ | exact Sep.at_ (i := 0) zq40 rfl | exact Sep.at_ (i := 1) zq40 rfl | exact Sep.at_ (i := 2) zq40 rfl | exact Sep.at_ (i := 3) zq40 rfl | exact Sep.at_ (i := 4) zq40 rfl | exact Sep.at_ (i := 5) zq40 rfl | exact Sep.at_ (i := 6) zq40 rfl); (exact rfl)))); (simp only [resOf]))))
    exact KE.mk _ (Ext.refl _) hK
end Go.Proofs.ZtLe
