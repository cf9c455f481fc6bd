/- A part of the proof of NodeMsgs: walks of the functions that it reaches. No condition. -/
import Derived.Test.YtocpidlgcakldaaZtNoF
import Derived.Test.YtocpidlgcakldaaZmAuto
namespace Go.Proofs.ZtLe
open Go.RowKit Go.Proofs Go.Proofs.Zm
set_option linter.unusedVariables false
set_option linter.unusedSimpArgs false
set_option maxHeartbeats 20000000
set_option maxRecDepth 100000
attribute [local irreducible] ZWp ZOps ZPure ZPure0 ZVal ZOp SoundF

/-! ### how long a node is -/
def leafLong (c : CfgV) : Int := c.l * (c.keyMax + 2 + c.valMax + 2)
def innerLong (c : CfgV) : Int := c.f * 4 + max (c.f - 1) 0 * (c.keyMax + 2) + c.m * mlong c
def longL (c : CfgV) : Int := if okC c = true then 5 + max (leafLong c) (innerLong c) else 0
theorem mul_bd {a b x y : Int} (ha : 0 ≤ a ∧ a ≤ x) (hb : 0 ≤ b ∧ b ≤ y) : 0 ≤ a * b ∧ a * b ≤ x * y := ⟨Int.mul_nonneg ha.1 hb.1, Int.mul_le_mul ha.2 hb.2 hb.1 (by omega)⟩
theorem long_bd {c : CfgV} (h : okC c = true) : (0 ≤ leafLong c ∧ leafLong c ≤ 2004000) ∧ (0 ≤ innerLong c ∧ innerLong c ≤ 3100000) := by
  obtain ⟨h1, h2, h3, h4, h5⟩ := okC_t h
  have a1 := mul_bd h5 (show 0 ≤ c.keyMax + 2 + c.valMax + 2 ∧ c.keyMax + 2 + c.valMax + 2 ≤ 2004 by omega)
  have a2 := mul_bd (show 0 ≤ max (c.f - 1) 0 ∧ max (c.f - 1) 0 ≤ 1000 by omega) (show 0 ≤ c.keyMax + 2 ∧ c.keyMax + 2 ≤ 1002 by omega)
  have a3 := mul_bd h4 (show 0 ≤ mlong c ∧ mlong c ≤ 2005 by unfold mlong; omega)
  unfold leafLong innerLong
  omega
theorem longL_t {c : CfgV} (h : okC c = true) : longL c = 5 + max (leafLong c) (innerLong c) := by unfold longL; exact if_pos h
theorem longL_bd (c : CfgV) : 0 ≤ longL c ∧ longL c ≤ 3200000 := by
  unfold longL
  split
  · rename_i h; have := long_bd h; omega
  · omega
theorem nlong_pf {c : CfgV} (h : True) : PureF Try.prog 13 [.agg (cfgD c)] (.v (.int .i64 (longL c))) := by
  refine pure_of Try.func13 rfl Try.results13 (by rw [Try.ntmps13]; simp) (fun w0 st K hK => ?_); rw [Try.ntmps13]
  have hS := Sep.nil st
  cases h0 : okC c
  · have h0' : (!okC c) = true := by rw [h0]; rfl
    rw [show longL c = 0 by unfold longL; rw [if_neg (by rw [h0]; simp)]] at hK
    (repeat (first | ((with_reducible apply zr_seq)) | ((with_reducible apply zr_region); (try simp only [List.append_eq, List.cons_append, List.nil_append])) | ((with_reducible apply zo_end)) | ((with_reducible apply zs_assign); (exact rfl); (exact rfl)) | ((with_reducible apply zs_not); (exact rfl); (exact rfl)) | ((with_reducible apply zr_cond_t); (exact rfl); (first | assumption | exact rfl)) | ((with_reducible apply zs_load_refAll); (exact rfl); (exact rfl); (exact sh_of rfl); (exact rfl)) | ((with_reducible apply (zs_boxRef (t := 1))); (exact rfl); (exact rfl)) | ((with_reducible apply (zs_callQ nok_pf cl_46)); (exact rfl); (exact rfl); ((repeat (first | exact DLes.nil | (apply DLes.cons; first | exact DLe.refl _ | exact DLe.nilB | exact DLe.nilR | exact DLe.nilI | exact dle_mnone)))); (first | exact trivial | assumption | ((repeat' (with_reducible refine And.intro ?_ ?_)) <;> first | assumption | omega | exact trivial | (simp; done) | (simp; omega)))) | ((with_reducible apply zr_retZ); (exact rfl); (repeat (first | exact resD_nil _ _ _ | ((with_reducible apply resD_tmp); (exact rfl)) | ((with_reducible apply resD_cell_agg); (exact rfl); (exact sh_of rfl); (first | assumption | exact St.setH_self _ _ _ | exact Sep.at_ (i := 0) zq35 rfl | exact Sep.at_ (i := 1) zq35 rfl | exact Sep.at_ (i := 2) zq35 rfl | exact Sep.at_ (i := 3) zq35 rfl | exact Sep.at_ (i := 4) zq35 rfl | exact Sep.at_ (i := 5) zq35 rfl | exact Sep.at_ (i := 6) zq35 rfl); (exact rfl)) | ((with_reducible apply resD_cell); (exact rfl); (exact sh_of rfl); (first | assumption | exact St.setH_self _ _ _ | exact Sep.at_ (i := 0) zq35 rfl | exact Sep.at_ (i := 1) zq35 rfl | exact Sep.at_ (i := 2) zq35 rfl | exact Sep.at_ (i := 3) zq35 rfl | exact Sep.at_ (i := 4) zq35 rfl | exact Sep.at_ (i := 5) zq35 rfl | exact Sep.at_ (i := 6) zq35 rfl); (exact rfl)))); (simp only [resOf]))))
    exact KE.mk _ hS.ext hK
  · have h0' : (!okC c) = false := by rw [h0]; rfl
    obtain ⟨h1, h2, h3, h4, h5⟩ := okC_t h0
    have a1 := mul_bd h5 (show 0 ≤ c.keyMax + 2 + c.valMax + 2 ∧ c.keyMax + 2 + c.valMax + 2 ≤ 2004 by omega)
    have a2 := mul_bd (show 0 ≤ max (c.f - 1) 0 ∧ max (c.f - 1) 0 ≤ 1000 by omega) (show 0 ≤ c.keyMax + 2 ∧ c.keyMax + 2 ≤ 1002 by omega)
    have a3 := mul_bd h4 (show 0 ≤ mlong c ∧ mlong c ≤ 2005 by unfold mlong; omega)
    rw [longL_t h0] at hK
    unfold leafLong innerLong at hK
    (repeat (first | ((with_reducible apply zr_seq)) | ((with_reducible apply zr_region); (try simp only [List.append_eq, List.cons_append, List.nil_append])) | ((with_reducible apply zo_end)) | ((with_reducible apply zs_assign); (exact rfl); (exact rfl)) | ((with_reducible apply zs_not); (exact rfl); (exact rfl)) | ((with_reducible apply zs_add); (exact rfl); (exact rfl); (exact rfl); (first | (with_reducible assumption) | exact wrap_in64 (by omega) (by omega))) | ((with_reducible apply zr_cond_f); (exact rfl); (first | assumption | exact rfl)) | ((with_reducible apply zr_skip')) | ((with_reducible apply zs_field_ref); (exact rfl); (exact rfl); (exact fld_of rfl)) | ((with_reducible apply zs_load_ref); (exact rfl); (exact rfl); (exact sh_of rfl); (exact rfl)) | ((with_reducible apply zs_load_refAll); (exact rfl); (exact rfl); (exact sh_of rfl); (exact rfl)) | ((with_reducible apply zs_mul); (exact rfl); (exact rfl); (exact rfl); (first | (with_reducible assumption) | exact wrap_in64 (by omega) (by omega))) | ((with_reducible apply (zs_boxRef (t := 1))); (exact rfl); (exact rfl)) | ((with_reducible apply (zs_callQ nok_pf cl_46)); (exact rfl); (exact rfl); ((repeat (first | exact DLes.nil | (apply DLes.cons; first | exact DLe.refl _ | exact DLe.nilB | exact DLe.nilR | exact DLe.nilI | exact dle_mnone)))); (first | exact trivial | assumption | ((repeat' (with_reducible refine And.intro ?_ ?_)) <;> first | assumption | omega | exact trivial | (simp; done) | (simp; omega))))))
    refine zr_flatK _ zq36 (sub_cons (k := 1) rfl (sub_cons (k := 3) rfl (sub_nil _))) ?_
    refine zf_cons rfl rfl rfl zq23 (fun st K hK => ZPure.opK rfl (by decide) zq16 hK) ?_
    first | refine zf_cons rfl rfl rfl zq23 (fun st K hK => ZPure.opK rfl (by decide) (zp_load_ref rfl zq33 rfl rfl) hK) ?_ | refine zf_cons rfl rfl rfl zq23 (fun st K hK => ZPure.opK rfl (by decide) (zp_load_refAll rfl zq33 rfl rfl) hK) ?_
    refine zf_cons rfl rfl rfl zq23 (fun st K hK => ZPure.opK rfl (by decide) (ZPure0.pure (zp_mul rfl rfl rfl zq24)) hK) ?_
    refine zf_cons rfl rfl rfl zq23 (fun st K hK => ZPure.opK rfl (by decide) zq16 hK) ?_
    first | refine zf_cons rfl rfl rfl zq23 (fun st K hK => ZPure.opK rfl (by decide) (zp_load_ref rfl zq33 rfl rfl) hK) ?_ | refine zf_cons rfl rfl rfl zq23 (fun st K hK => ZPure.opK rfl (by decide) (zp_load_refAll rfl zq33 rfl rfl) hK) ?_
    refine zf_cons rfl rfl rfl zq23 (fun st K hK => ZPure.opK rfl (by decide) (ZPure0.pure (zp_sub rfl rfl rfl zq24)) hK) ?_
    refine zf_cons rfl rfl rfl zq23 (fun st K hK => ZPure.opK rfl (by decide) (ZPure0.pure (zp_max rfl rfl rfl (by first | (with_reducible assumption) | exact rfl))) hK) ?_
    refine zf_cons rfl rfl rfl zq23 (fun st K hK => ZPure.opK rfl (by decide) zq16 hK) ?_
    first | refine zf_cons rfl rfl rfl zq23 (fun st K hK => ZPure.opK rfl (by decide) (zp_load_ref rfl zq33 rfl rfl) hK) ?_ | refine zf_cons rfl rfl rfl zq23 (fun st K hK => ZPure.opK rfl (by decide) (zp_load_refAll rfl zq33 rfl rfl) hK) ?_
    refine zf_cons rfl rfl rfl zq23 (fun st K hK => ZPure.opK rfl (by decide) (ZPure0.pure (zp_add rfl rfl rfl zq24)) hK) ?_
    refine zf_cons rfl rfl rfl zq23 (fun st K hK => ZPure.opK rfl (by decide) (ZPure0.pure (zp_mul rfl rfl rfl zq24)) hK) ?_
    refine zf_cons rfl rfl rfl zq23 (fun st K hK => ZPure.opK rfl (by decide) (ZPure0.pure (zp_add rfl rfl rfl zq24)) hK) ?_
    refine zf_cons rfl rfl rfl zq23 (fun st K hK => ZPure.opK rfl (by decide) zq16 hK) ?_
    first | refine zf_cons rfl rfl rfl zq23 (fun st K hK => ZPure.opK rfl (by decide) (zp_load_ref rfl zq33 rfl rfl) hK) ?_ | refine zf_cons rfl rfl rfl zq23 (fun st K hK => ZPure.opK rfl (by decide) (zp_load_refAll rfl zq33 rfl rfl) hK) ?_
    first | refine zf_cons rfl rfl rfl zq23 (fun st K hK => ZPure.opK rfl (by decide) (zp_load_ref rfl zq33 rfl rfl) hK) ?_ | refine zf_cons rfl rfl rfl zq23 (fun st K hK => ZPure.opK rfl (by decide) (zp_load_refAll rfl zq33 rfl rfl) hK) ?_
    refine zf_cons rfl rfl rfl zq23 (fun st K hK => zop_callQ mlong_pf cl_47 rfl rfl (by decide) rfl rfl zq15 zq13 hK) ?_
    refine zf_cons rfl rfl rfl zq23 (fun st K hK => ZPure.opK rfl (by decide) (ZPure0.pure (zp_mul rfl rfl rfl zq24)) hK) ?_
    refine zf_cons rfl rfl rfl zq23 (fun st K hK => ZPure.opK rfl (by decide) (ZPure0.pure (zp_add rfl rfl rfl zq24)) hK) ?_
    refine zf_cons rfl rfl rfl zq23 (fun st K hK => ZPure.opK rfl (by decide) (ZPure0.pure (zp_assign rfl rfl)) hK) ?_
    refine zf_nil ⟨by kernel_rfl, by kernel_rfl, ?_⟩
    refine zr_subE (sub_cons (k := 3) rfl (sub_cons (k := 4) rfl (sub_nil _))) ?_
    (repeat (first | ((with_reducible apply zr_seq)) | ((with_reducible apply zr_region); (try simp only [List.append_eq, List.cons_append, List.nil_append])) | ((with_reducible apply zo_end)) | ((with_reducible apply zs_move); (exact rfl); (exact rfl)) | ((with_reducible apply zs_assign); (exact rfl); (exact rfl)) | ((with_reducible apply zs_add); (exact rfl); (exact rfl); (exact rfl); (first | (with_reducible assumption) | exact wrap_in64 (by omega) (by omega))) | ((with_reducible apply zs_max); (exact rfl); (exact rfl); (exact rfl); (first | (with_reducible assumption) | exact rfl)) | ((with_reducible apply zr_retZ); (exact rfl); (repeat (first | exact resD_nil _ _ _ | ((with_reducible apply resD_tmp); (exact rfl)) | ((with_reducible apply resD_cell_agg); (exact rfl); (exact sh_of rfl); (first | assumption | exact St.setH_self _ _ _ | exact Sep.at_ (i := 0) zq35 rfl | exact Sep.at_ (i := 1) zq35 rfl | exact Sep.at_ (i := 2) zq35 rfl | exact Sep.at_ (i := 3) zq35 rfl | exact Sep.at_ (i := 4) zq35 rfl | exact Sep.at_ (i := 5) zq35 rfl | exact Sep.at_ (i := 6) zq35 rfl); (exact rfl)) | ((with_reducible apply resD_cell); (exact rfl); (exact sh_of rfl); (first | assumption | exact St.setH_self _ _ _ | exact Sep.at_ (i := 0) zq35 rfl | exact Sep.at_ (i := 1) zq35 rfl | exact Sep.at_ (i := 2) zq35 rfl | exact Sep.at_ (i := 3) zq35 rfl | exact Sep.at_ (i := 4) zq35 rfl | exact Sep.at_ (i := 5) zq35 rfl | exact Sep.at_ (i := 6) zq35 rfl); (exact rfl)))); (simp only [resOf]))))
    exact KE.mk _ hS.ext hK
end Go.Proofs.ZtLe
