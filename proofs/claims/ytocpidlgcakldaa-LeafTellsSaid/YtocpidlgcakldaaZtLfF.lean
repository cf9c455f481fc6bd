/- A part of the proof of LeafTells: walks of the functions that it reaches. No condition. -/
import Derived.Test.YtocpidlgcakldaaZtLfD
import Derived.Test.YtocpidlgcakldaaZmAuto
namespace Go.Proofs.ZtLe
open Go.RowKit Go.Proofs Go.Proofs.Zm
set_option linter.unusedVariables false
set_option linter.unusedSimpArgs false
set_option maxHeartbeats 20000000
set_option maxRecDepth 100000
attribute [local irreducible] ZWp ZOps ZPure ZPure0 ZVal ZOp SoundF

/-! ### dumbwaiterref18: Half, Build -/
theorem rup_pf {a : Int} (h : 0 ≤ a ∧ a ≤ 4611686018427387904) : PureF Try.prog 74 [.v (.int .i64 a), .v (.int .i64 2)] (.v (.int .i64 ((a + 1) / 2))) := by
  refine pure_of Try.func74 rfl Try.results74 (by rw [Try.ntmps74]; simp) (fun w0 st K hK => ?_); rw [Try.ntmps74]
  obtain ⟨h0, h1⟩ := h
  have hq : IntKind.i64.wrap ((a + 2 - 1).tdiv 2) = (a + 1) / 2 := by
    rw [Int.tdiv_eq_ediv_of_nonneg (by omega), show a + 2 - 1 = a + 1 by omega]
    exact wrap_in64 (by omega) (by omega)
  (repeat (first | ((with_reducible apply zr_seq)) | ((with_reducible apply zr_region); (try simp only [List.append_eq, List.cons_append, List.nil_append])) | ((with_reducible apply zo_end)) | ((with_reducible apply zs_move); (exact rfl); (exact rfl)) | ((with_reducible apply zs_assign); (exact rfl); (exact rfl)) | ((with_reducible apply zs_add); (exact rfl); (exact rfl); (exact rfl); (first | (with_reducible assumption) | exact wrap_in64 (by omega) (by omega))) | ((with_reducible apply zs_sub); (exact rfl); (exact rfl); (exact rfl); (first | (with_reducible assumption) | exact wrap_in64 (by omega) (by omega))) | ((with_reducible apply zs_quo); (exact rfl); (exact rfl); (exact rfl); (decide); ((with_reducible assumption))) | ((with_reducible apply zr_retZ); (exact rfl); (repeat (first | exact resD_nil _ _ _ | ((with_reducible apply resD_tmp); (exact rfl)) | ((with_reducible apply resD_cell_agg); (exact rfl); (exact sh_of rfl); (first | assumption | exact St.setH_self _ _ _ | exact Sep.at_ (i := 0) zq42 rfl | exact Sep.at_ (i := 1) zq42 rfl | exact Sep.at_ (i := 2) zq42 rfl | exact Sep.at_ (i := 3) zq42 rfl | exact Sep.at_ (i := 4) zq42 rfl | exact Sep.at_ (i := 5) zq42 rfl | exact Sep.at_ (i := 6) zq42 rfl); (exact rfl)) | ((with_reducible apply resD_cell); (exact rfl); (exact sh_of rfl); (first | assumption | exact St.setH_self _ _ _ | exact Sep.at_ (i := 0) zq42 rfl | exact Sep.at_ (i := 1) zq42 rfl | exact Sep.at_ (i := 2) zq42 rfl | exact Sep.at_ (i := 3) zq42 rfl | exact Sep.at_ (i := 4) zq42 rfl | exact Sep.at_ (i := 5) zq42 rfl | exact Sep.at_ (i := 6) zq42 rfl); (exact rfl)))); (simp only [resOf]))))
  exact KE.mk _ (Ext.refl _) hK
theorem rhalf_pf {c : CfgV} (h : 0 ≤ c.l ∧ c.l ≤ 1000000 ∧ 0 ≤ c.c ∧ c.c ≤ 1000000) : PureF Try.prog 73 [.agg (cfgD c)] (.v (.int .i64 ((c.l + c.c + 1) / 2))) := by
  refine pure_of Try.func73 rfl Try.results73 (by rw [Try.ntmps73]; simp) (fun w0 st K hK => ?_); rw [Try.ntmps73]
  obtain ⟨h0, h1, h2, h3⟩ := h
  have hS := Sep.nil st
  (repeat (first | ((with_reducible apply zr_seq)) | ((with_reducible apply zr_region); (try simp only [List.append_eq, List.cons_append, List.nil_append])) | ((with_reducible apply zo_end)) | ((with_reducible apply zs_assign); (exact rfl); (exact rfl)) | ((with_reducible apply zs_add); (exact rfl); (exact rfl); (exact rfl); (first | (with_reducible assumption) | exact wrap_in64 (by omega) (by omega))) | ((with_reducible apply zs_field_ref); (exact rfl); (exact rfl); (exact fld_of rfl)) | ((with_reducible apply zs_load_ref); (exact rfl); (exact rfl); (exact sh_of rfl); (exact rfl)) | ((with_reducible apply (zs_boxRef (t := 1))); (exact rfl); (exact rfl)) | ((with_reducible apply (zs_callQ rup_pf cl_74)); (exact rfl); (exact rfl); ((repeat (first | exact DLes.nil | (apply DLes.cons; first | exact DLe.refl _ | exact DLe.nilB | exact DLe.nilR | exact DLe.nilI | exact dle_lf1 | exact dle_lm2 | exact dle_lp4 | exact dle_lp0 | exact dle_app2)))); (first | exact trivial | assumption | ((repeat' (with_reducible refine And.intro ?_ ?_)) <;> first | assumption | omega | exact trivial | (simp; done) | (simp; omega)))) | ((with_reducible apply zr_retZ); (exact rfl); (repeat (first | exact resD_nil _ _ _ | ((with_reducible apply resD_tmp); (exact rfl)) | ((with_reducible apply resD_cell_agg); (exact rfl); (exact sh_of rfl); (first | assumption | exact St.setH_self _ _ _ | exact Sep.at_ (i := 0) zq42 rfl | exact Sep.at_ (i := 1) zq42 rfl | exact Sep.at_ (i := 2) zq42 rfl | exact Sep.at_ (i := 3) zq42 rfl | exact Sep.at_ (i := 4) zq42 rfl | exact Sep.at_ (i := 5) zq42 rfl | exact Sep.at_ (i := 6) zq42 rfl); (exact rfl)) | ((with_reducible apply resD_cell); (exact rfl); (exact sh_of rfl); (first | assumption | exact St.setH_self _ _ _ | exact Sep.at_ (i := 0) zq42 rfl | exact Sep.at_ (i := 1) zq42 rfl | exact Sep.at_ (i := 2) zq42 rfl | exact Sep.at_ (i := 3) zq42 rfl | exact Sep.at_ (i := 4) zq42 rfl | exact Sep.at_ (i := 5) zq42 rfl | exact Sep.at_ (i := 6) zq42 rfl); (exact rfl)))); (simp only [resOf]))))
  exact KE.mk _ hS.ext hK
def chR (l : List (List PairV)) : List (List D) := l.map fun x => [D.row (pairR x) 2 0]
@[simp] theorem chR_length (l : List (List PairV)) : (chR l).length = l.length := by simp [chR]
theorem chR_one (l : List (List PairV)) : ∀ x ∈ chR l, x.length = 1 := fun x hx => by
  obtain ⟨c, _, rfl⟩ := List.mem_map.1 hx; rfl
theorem chR_append (l m : List (List PairV)) : chR (l ++ m) = chR l ++ chR m := by simp [chR]
theorem rbuild_own : SoundF Try.prog 39 fun args st K => ∃ (c : CfgV) (h : Nat) (p : List PairV) (tp : Nat), args = [.agg (cfgD c), .row (pairR p) 2 tp] ∧ (0 ≤ c.l ∧ c.l ≤ 1000000 ∧ 0 ≤ c.c ∧ c.c ≤ 1000000) ∧ (c.l + c.c + 1) / 2 = (h : Int) ∧ 1 ≤ h ∧ p.length ≤ 2147483648 ∧
    ∀ o q f st', Sep st st' [(o, f)] → GRow o f 1 (cntF p.length h) q (chR (chunksL h p (cntF p.length h))).flatten → K (orow o (cntF p.length h) q) st' := by
  refine sound_ofA Try.func39 rfl Try.results39 ?_
  rintro w0 args st K ⟨c, h, p, tp, rfl, hcl, hh, hh1, hp, hK⟩
  rw [Try.ntmps39]; refine ⟨by simp, ?_⟩
  refine zr_as 1 (.row (pairR p) 2 0) rfl zq3 ?_
  have hS := Sep.nil st
  have hr0 : (pairR p).length = p.length := pairR_length _
  (repeat (first | ((with_reducible apply zr_seq)) | ((with_reducible apply zr_region); (try simp only [List.append_eq, List.cons_append, List.nil_append])) | ((with_reducible apply zo_end)) | ((with_reducible apply zs_assign); (exact rfl); (exact rfl)) | ((with_reducible apply zr_block)) | ((with_reducible apply (zs_boxRef (t := 2))); (exact rfl); (exact rfl))))
  replace hS := hS.addNone []
  obtain ⟨N, hN⟩ : ∃ N, N = cntF p.length h := ⟨_, rfl⟩
  have hN1 := cntF_pos p.length h
  have hNb := cntF_bnd p.length h hh1
  rw [← hN] at hK hN1 hNb
  refine zr_loopK [2] (fun m e s => ∃ i o q f, m + i = N ∧ i < N ∧ e = [(1, .row (pairR (p.drop (i * h))) 2 0), (5, orow o i q)] ∧ Zm.Sep st s [(o, f)] ∧ GRow o f 1 i q (chR (chunksL h p i)).flatten) N _ zq23 ⟨0, none, 0, [], by simp, by omega, by simp only [Nat.zero_mul, List.drop_zero]; rfl, hS, GRow.empty 1⟩ zq27 ?_
  rintro m e s ⟨i, o, q, f, hm, hi, rfl, hS, hg⟩
  have hr1 : (pairR (p.drop (i * h))).length = p.length - i * h := by rw [pairR_length, List.length_drop]
  have hlt := cntF_lt (n := p.length) (i := i) hh1
  rw [← hN] at hlt
  have e2 : List.drop h (pairR (List.drop (i * h) p)) = pairR (List.drop ((i + 1) * h) p) := by rw [pairR_drop, List.drop_drop, Nat.succ_mul]
  have e1 : List.take h (pairR (List.drop (i * h) p)) = pairR (chunkL h p i) := pairR_take _ _
  (repeat (first | ((with_reducible apply zr_seq)) | ((with_reducible apply zr_region); (try simp only [List.append_eq, List.cons_append, List.nil_append])) | ((with_reducible apply zo_end)) | ((with_reducible apply zs_move); (exact rfl); (exact rfl)) | ((with_reducible apply zs_gtr); (exact rfl); (exact rfl); (exact rfl)) | ((with_reducible apply zs_len); (exact rfl); (exact rfl); (exact un_sl rfl)) | ((with_reducible apply zs_load_refAll); (exact rfl); (exact rfl); (exact sh_of rfl); (exact rfl)) | ((with_reducible apply (zs_callQ rhalf_pf cl_73)); (exact rfl); (exact rfl); ((repeat (first | exact DLes.nil | (apply DLes.cons; first | exact DLe.refl _ | exact DLe.nilB | exact DLe.nilR | exact DLe.nilI | exact dle_lf1 | exact dle_lm2 | exact dle_lp4 | exact dle_lp0 | exact dle_app2)))); (first | exact trivial | assumption | ((repeat' (with_reducible refine And.intro ?_ ?_)) <;> first | assumption | omega | exact trivial | (simp; done) | (simp; omega))))))
  rw [hh]
  (first | refine zr_cond rfl (fun h1 => ?_) (fun h1 => ?_) | refine zs_split rfl rfl (fun h1 => ?_) (fun h1 => ?_)) <;> have h1' := h1 <;> (try simp only [decide_eq_true_eq, decide_eq_false_iff_not, Bool.and_eq_true, Bool.or_eq_true, Bool.and_eq_false_iff, Bool.or_eq_false_iff, Bool.not_eq_true', Bool.not_eq_false', Bool.not_eq_true, Bool.not_eq_false, Int.not_le, Int.not_lt, Classical.not_not, Decidable.not_not, ne_eq, beq_iff_eq, bne_iff_ne] at h1')
  · (repeat (first | ((with_reducible apply zr_seq)) | ((with_reducible apply zr_region); (try simp only [List.append_eq, List.cons_append, List.nil_append])) | ((with_reducible apply zo_end)) | ((with_reducible apply zo_endB)) | ((with_reducible apply zs_move); (exact rfl); (exact rfl)) | ((with_reducible apply zs_assign); (exact rfl); (exact rfl)) | ((with_reducible apply zr_block)) | ((with_reducible apply zr_skip')) | ((with_reducible apply zs_load_refAll); (exact rfl); (exact rfl); (exact sh_of rfl); (exact rfl)) | ((with_reducible apply zs_cutlo); (exact rfl); (exact rfl); (exact un_sl rfl); (exact ii_of rfl); (exact rfl); (first | omega | (simp only [List.length_map, List.length_take, List.length_drop, List.length_append, List.length_cons, List.length_nil, List.length_replicate, rowR_length, intR_length, msgR_length, pairR_length, lnodesR_length, chR_length]; omega) | decide); (first | omega | (simp only [List.length_map, List.length_take, List.length_drop, List.length_append, List.length_cons, List.length_nil, List.length_replicate, rowR_length, intR_length, msgR_length, pairR_length, lnodesR_length, chR_length]; omega) | decide); (first | (with_reducible exact Int.toNat_natCast _) | (simp only [Int.reduceToNat]; exact rfl) | exact rfl)) | ((with_reducible apply zs_cuthi); (exact rfl); (exact rfl); (exact un_sl rfl); (exact ii_of rfl); (exact rfl); (first | omega | (simp only [List.length_map, List.length_take, List.length_drop, List.length_append, List.length_cons, List.length_nil, List.length_replicate, rowR_length, intR_length, msgR_length, pairR_length, lnodesR_length, chR_length]; omega) | decide); (first | omega | (simp only [List.length_map, List.length_take, List.length_drop, List.length_append, List.length_cons, List.length_nil, List.length_replicate, rowR_length, intR_length, msgR_length, pairR_length, lnodesR_length, chR_length]; omega) | decide); (first | (with_reducible exact Int.toNat_natCast _) | (simp only [Int.reduceToNat]; exact rfl) | exact rfl)) | ((with_reducible apply (zs_callQ rhalf_pf cl_73)); (exact rfl); (exact rfl); ((repeat (first | exact DLes.nil | (apply DLes.cons; first | exact DLe.refl _ | exact DLe.nilB | exact DLe.nilR | exact DLe.nilI | exact dle_lf1 | exact dle_lm2 | exact dle_lp4 | exact dle_lp0 | exact dle_app2)))); (first | exact trivial | assumption | ((repeat' (with_reducible refine And.intro ?_ ?_)) <;> first | assumption | omega | exact trivial | (simp; done) | (simp; omega)))) | ((with_reducible apply (zs_lit (t := 16) [.tmp 15])); (exact rfl); (exact rfl); (exact rfl); (exact rfl); (exact un_sl rfl); (exact el_of rfl); (simp only [List.map_cons, List.map_nil, cellsD]; exact rfl); ((repeat (first | exact lit_nil | (apply lit_cons; exact rfl; (repeat (first | exact one_nil | (apply one_cons; (first | exact rfl | exact one_orow _ _ _)))))))); (decide)) | ((with_reducible apply (zs_sapp (i := 0))); (exact rfl); (exact rfl); (exact rfl); (exact un_sl rfl); (exact el_of rfl); (simp [oneD, Value.oneCell']); (assumption); (exact rfl); (assumption); (simp only [List.length_map, List.length_cons, List.length_nil, List.length_take, List.length_drop, List.length_append, rowR_length, intR_length, msgR_length, pairR_length, lnodesR_length, chR_length]; omega); (intro o1 c1 f1 sS hS hg); (try simp only [List.set_cons_zero, List.set_cons_succ] at hS))))
    rw [hh]
    skip
    rw [hh, Int.toNat_natCast, e1] at hg
    rw [Int.toNat_natCast, e2]
    refine ⟨m - 1, _, by omega, ⟨i + 1, o1, c1, f1, by omega, by omega, rfl, hS, ?_⟩, zq27, zq27⟩
    rw [chunksL_succ, chR_append, List.flatten_append]
    exact hg
  · have e : p.drop (i * h) = chunkL h p i := (List.take_of_length_le (by rw [List.length_drop]; omega)).symm
    have hiN : i + 1 = N := by omega
    rw [e]
    (repeat (first | ((with_reducible apply zr_seq)) | ((with_reducible apply zr_region); (try simp only [List.append_eq, List.cons_append, List.nil_append])) | ((with_reducible apply zo_end)) | ((with_reducible apply zs_move); (exact rfl); (exact rfl)) | ((with_reducible apply zs_assign); (exact rfl); (exact rfl)) | (with_reducible refine zr_exit ?_; simp only [Zthen, Zblock, ↓reduceIte]) | ((with_reducible apply (zs_lit (t := 24) [.tmp 23])); (exact rfl); (exact rfl); (exact rfl); (exact rfl); (exact un_sl rfl); (exact el_of rfl); (simp only [List.map_cons, List.map_nil, cellsD]; exact rfl); ((repeat (first | exact lit_nil | (apply lit_cons; exact rfl; (repeat (first | exact one_nil | (apply one_cons; (first | exact rfl | exact one_orow _ _ _)))))))); (decide)) | ((with_reducible apply (zs_sapp (i := 0))); (exact rfl); (exact rfl); (exact rfl); (exact un_sl rfl); (exact el_of rfl); (simp [oneD, Value.oneCell']); (assumption); (exact rfl); (assumption); (simp only [List.length_map, List.length_cons, List.length_nil, List.length_take, List.length_drop, List.length_append, rowR_length, intR_length, msgR_length, pairR_length, lnodesR_length, chR_length]; omega); (intro o1 c1 f1 sS hS hg); (try simp only [List.set_cons_zero, List.set_cons_succ] at hS)) | ((with_reducible apply zr_retZ); (exact rfl); (repeat (first | exact resD_nil _ _ _ | ((with_reducible apply resD_tmp); (exact rfl)) | ((with_reducible apply resD_cell_agg); (exact rfl); (exact sh_of rfl); (first | assumption | exact St.setH_self _ _ _ | exact Sep.at_ (i := 0) zq42 rfl | exact Sep.at_ (i := 1) zq42 rfl | exact Sep.at_ (i := 2) zq42 rfl | exact Sep.at_ (i := 3) zq42 rfl | exact Sep.at_ (i := 4) zq42 rfl | exact Sep.at_ (i := 5) zq42 rfl | exact Sep.at_ (i := 6) zq42 rfl); (exact rfl)) | ((with_reducible apply resD_cell); (exact rfl); (exact sh_of rfl); (first | assumption | exact St.setH_self _ _ _ | exact Sep.at_ (i := 0) zq42 rfl | exact Sep.at_ (i := 1) zq42 rfl | exact Sep.at_ (i := 2) zq42 rfl | exact Sep.at_ (i := 3) zq42 rfl | exact Sep.at_ (i := 4) zq42 rfl | exact Sep.at_ (i := 5) zq42 rfl | exact Sep.at_ (i := 6) zq42 rfl); (exact rfl)))); (simp only [resOf]))))
    subst hiN
    exact KE.mk _ (Ext.refl _) (hK _ _ _ _ hS (by rw [chunksL_succ, chR_append, List.flatten_append]; exact hg))
theorem rbuild_pf {c : CfgV} {h : Nat} {p : List PairV} {tp : Nat} (hh : ((0 ≤ c.l ∧ c.l ≤ 1000000 ∧ 0 ≤ c.c ∧ c.c ≤ 1000000) ∧ (c.l + c.c + 1) / 2 = (h : Int) ∧ 1 ≤ h) ∧ p.length ≤ 2147483648) : PureF Try.prog 39 [.agg (cfgD c), .row (pairR p) 2 tp] (.row (chR (chunksL h p (cntF p.length h))) 1 0) :=
  PureF.ofOwn fun st K hK => ⟨_, rbuild_own, c, h, p, tp, rfl, hh.1.1, hh.1.2.1, hh.1.2.2, hh.2, fun o q f st' hS hg => by
    obtain ⟨e1, k1⟩ := OR.mk_ok (by decide) hg rfl (chR_one _)
    refine hK [⟨o, f, 1, q, chR (chunksL h p (cntF p.length h))⟩] st' _ hS (fun r hr => ?_) fun G hr => ?_
    · simp only [List.mem_cons, List.not_mem_nil, or_false] at hr
      subst hr; assumption
    · have r1 := hr _ (.head _)
      unfold OR.own OR.row at r1
      simp only at r1
      rw [e1] at r1
      exact r1⟩
end Go.Proofs.ZtLe
