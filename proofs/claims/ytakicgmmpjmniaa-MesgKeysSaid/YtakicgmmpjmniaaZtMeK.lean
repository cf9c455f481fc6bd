/- A part of the proof of MesgKeys: walks of the functions that it reaches. No condition. -/
import Derived.Test.YtakicgmmpjmniaaZtMeG
import Derived.Test.YtakicgmmpjmniaaZmAuto
namespace Go.Proofs.ZtLe
open Go.RowKit Go.Proofs Go.Proofs.Zm
set_option linter.unusedVariables false
set_option linter.unusedSimpArgs false
set_option maxHeartbeats 20000000
set_option maxRecDepth 100000
attribute [local irreducible] ZWp ZOps ZPure ZPure0 ZVal ZOp SoundF

/-! ### MesgKeys -/
theorem xor128 (b : UInt8) : IntKind.u8.wrap ((BitVec.ofInt IntKind.u8.bits (b.toNat : Int) ^^^ BitVec.ofInt IntKind.u8.bits 128).toNat : Int) = (((b ^^^ 128 : UInt8).toNat : Nat) : Int) := by
  have h : (List.range 256).all (fun n => decide (IntKind.u8.wrap ((BitVec.ofInt IntKind.u8.bits (((UInt8.ofNat n).toNat : Nat) : Int) ^^^ BitVec.ofInt IntKind.u8.bits 128).toNat : Int) = (((UInt8.ofNat n ^^^ 128 : UInt8).toNat : Nat) : Int))) = true := by kernel_rfl
  have := of_decide_eq_true (List.all_eq_true.1 h b.toNat (List.mem_range.2 b.toNat_lt))
  rwa [UInt8.ofNat_toNat] at this
theorem lt_snoc2 : ∀ (a : Bs) (x y : UInt8), lt (a ++ [x]) (a ++ [y]) = decide (x < y)
  | [], x, y => by rw [List.nil_append, List.nil_append, lt_cons, lt_nil]; simp
  | c :: a, x, y => by rw [List.cons_append, List.cons_append, lt_cons, lt_snoc2 a x y]; simp
theorem keys_one (a b : Bs) : ((lt a b || lt b a) == !(a == b)) = true := by
  rcases lt_tri a b with h | h | h
  · have := lt_ne h; rw [h]; simp [this]
  · subst h; rw [lt_irrefl]; simp
  · have := (lt_ne h).symm; rw [h]; simp [this]
theorem keys_two (a b : Bs) : (lt a b && lt b a) = false := by
  cases h : lt a b with
  | false => rfl
  | true => rw [lt_asymm h]; rfl
def keysSpecM : ZSpec := fun args st K => ∃ (a b : Bs) (y : UInt8) (ta tb : Nat), args = [.row (bytesD a) 1 ta, .row (bytesD b) 1 tb, .v (.int .u8 (y.toNat : Int))] ∧ a.length ≤ 140737488351232 ∧ b.length ≤ 140737488351232 ∧ K (.v (.bool true)) st
theorem keysM_snd : SoundF Try.prog 4 keysSpecM := by
  refine sound_ofA Try.func4 rfl Try.results4 ?_
  rintro w0 args st K ⟨a, b, y, ta, tb, rfl, ha, hb, hK⟩
  rw [Try.ntmps4]; refine ⟨by simp, ?_⟩
  refine zr_as 0 (.row (bytesD a) 1 0) rfl zq1 ?_
  refine zr_as 1 (.row (bytesD b) 1 0) rfl zq1 ?_
  have hS := Sep.nil st
  (repeat (first | ((with_reducible apply zr_seq)) | ((with_reducible apply zr_region); (try simp only [List.append_eq, List.cons_append, List.nil_append])) | ((with_reducible apply zo_end)) | ((with_reducible apply zs_move); (exact rfl); (exact rfl)) | ((with_reducible apply zs_assign); (exact rfl); (exact rfl)) | ((with_reducible apply zs_gtr); (exact rfl); (exact rfl); (exact rfl)) | ((with_reducible apply zs_add); (exact rfl); (exact rfl); (exact rfl); (first | (with_reducible assumption) | exact wrap_in64 (by omega) (by omega))) | ((with_reducible apply zs_lenB); (exact rfl); (exact rfl); (exact un_sl rfl))))
  (first | refine zr_cond rfl (fun h0 => ?_) (fun h0 => ?_) | refine zs_split rfl rfl (fun h0 => ?_) (fun h0 => ?_)) <;> have h0' := h0 <;> (try simp only [decide_eq_true_eq, decide_eq_false_iff_not, Bool.and_eq_true, Bool.or_eq_true, Bool.and_eq_false_iff, Bool.or_eq_false_iff, Bool.not_eq_true', Bool.not_eq_false', Bool.not_eq_true, Bool.not_eq_false, Int.not_le, Int.not_lt, Classical.not_not, Decidable.not_not, ne_eq, beq_iff_eq, bne_iff_ne] at h0')
  · (repeat (first | ((with_reducible apply zr_seq)) | ((with_reducible apply zr_region); (try simp only [List.append_eq, List.cons_append, List.nil_append])) | ((with_reducible apply zo_end)) | ((with_reducible apply zs_assign); (exact rfl); (exact rfl)) | ((with_reducible apply (zs_callQ awake19_pf cl_14)); (exact rfl); (exact rfl); ((repeat (first | exact DLes.nil | (apply DLes.cons; first | exact DLe.refl _ | exact DLe.nilB | exact DLe.nilR | exact DLe.nilI | exact dle_m3 | exact dle_m2 | exact dle_m0 | exact dle_p1 | exact dle_m12)))); (first | exact trivial | assumption | ((repeat' (with_reducible refine And.intro ?_ ?_)) <;> first | assumption | omega | exact trivial | (simp; done) | (simp; omega)))) | ((with_reducible apply zr_retZ); (exact rfl); (repeat (first | exact resD_nil _ _ _ | ((with_reducible apply resD_tmp); (exact rfl)) | ((with_reducible apply resD_cell_agg); (exact rfl); (exact sh_of rfl); (first | assumption | exact St.setH_self _ _ _ | exact Sep.at_ (i := 0) (by assumption) rfl | exact Sep.at_ (i := 1) (by assumption) rfl | exact Sep.at_ (i := 2) (by assumption) rfl | exact Sep.at_ (i := 3) (by assumption) rfl | exact Sep.at_ (i := 4) (by assumption) rfl | exact Sep.at_ (i := 5) (by assumption) rfl | exact Sep.at_ (i := 6) (by assumption) rfl); (exact rfl)) | ((with_reducible apply resD_cell); (exact rfl); (exact sh_of rfl); (first | assumption | exact St.setH_self _ _ _ | exact Sep.at_ (i := 0) (by assumption) rfl | exact Sep.at_ (i := 1) (by assumption) rfl | exact Sep.at_ (i := 2) (by assumption) rfl | exact Sep.at_ (i := 3) (by assumption) rfl | exact Sep.at_ (i := 4) (by assumption) rfl | exact Sep.at_ (i := 5) (by assumption) rfl | exact Sep.at_ (i := 6) (by assumption) rfl); (exact rfl)))); (simp only [resOf]))))
    exact KE.mk _ hS.ext hK
  (repeat (first | ((with_reducible apply zr_seq)) | ((with_reducible apply zr_region); (try simp only [List.append_eq, List.cons_append, List.nil_append])) | ((with_reducible apply zo_end)) | ((with_reducible apply zs_move); (exact rfl); (exact rfl)) | ((with_reducible apply zs_assign); (exact rfl); (exact rfl)) | ((with_reducible apply zr_skip')) | ((with_reducible apply (zs_callQ mless_pf cl_15)); (exact rfl); (exact rfl); ((repeat (first | exact DLes.nil | (apply DLes.cons; first | exact DLe.refl _ | exact DLe.nilB | exact DLe.nilR | exact DLe.nilI | exact dle_m3 | exact dle_m2 | exact dle_m0 | exact dle_p1 | exact dle_m12)))); (first | exact trivial | assumption | ((repeat' (with_reducible refine And.intro ?_ ?_)) <;> first | assumption | omega | exact trivial | (simp; done) | (simp; omega))))))
  (try ((with_reducible apply zs_yes); exact rfl; exact rfl; (first | assumption | exact rfl))); refine zo_val rfl rfl (by decide) (zv_buildSlice (e := 5) (xs := []) rfl rfl zq24 zq27 rfl (by simp) (by decide) fun t1 ht1 ht10 => ?_)
  have h01 := hS.T0 ht1
  replace hS := hS.setT t1
  (repeat (first | ((with_reducible apply zs_move); (exact rfl); (exact rfl))))
  (try ((with_reducible apply zs_yes); exact rfl; exact rfl; (first | assumption | exact rfl))); refine zo_val rfl rfl (by decide) (zv_append (e := 5) rfl zq24 zq27 rfl (by simp) rfl (by simp; omega) fun t2 ht2 ht20 => ?_)
  have h02 := hS.T0 ht2
  replace hS := (hS.setTa h01 false).setT t2
  (repeat (first | ((with_reducible apply zs_move); (exact rfl); (exact rfl)) | ((with_reducible apply (zs_lit (t := 28) [.tmp 27])); (exact rfl); (exact rfl); (exact rfl); (exact rfl); (exact un_sl rfl); (exact el_of rfl); (simp only [List.map_cons, List.map_nil, cellsD]; exact rfl); ((repeat (first | exact lit_nil | (apply lit_cons; exact rfl; (repeat (first | exact one_nil | (apply one_cons; (first | exact rfl | exact one_orow _ _ _)))))))); (decide))))
  (try ((with_reducible apply zs_yes); exact rfl; exact rfl; (first | assumption | exact rfl))); refine zo_val rfl rfl (by decide) (zv_append (e := 5) rfl zq24 zq27 rfl (by simp) rfl (by simp; omega) fun t3 ht3 ht30 => ?_)
  replace hS := (hS.setTa h02 false).setT t3
  have e1 : List.map cellsD [] ++ bytesD a ++ [[D.v (.int .u8 (y.toNat : Int))]] = bytesD (a ++ [y]) := by rw [bytesD_append]; rfl
  rw [e1]
  generalize ((((st.setT t1 true).setT t1 false).setT t2 true).setT t2 false).setT t3 true = s3 at hS ⊢
  refine zo_as 29 (.row (bytesD (a ++ [y])) 1 0) rfl zq1 ?_
  (repeat (first | ((with_reducible apply zr_seq)) | ((with_reducible apply zr_region); (try simp only [List.append_eq, List.cons_append, List.nil_append])) | ((with_reducible apply zo_end)) | ((with_reducible apply zs_assign); (exact rfl); (exact rfl))))
  (try ((with_reducible apply zs_yes); exact rfl; exact rfl; (first | assumption | exact rfl))); refine zo_val rfl rfl (by decide) (zv_buildSlice (e := 5) (xs := []) rfl rfl zq24 zq27 rfl (by simp) (by decide) fun t4 ht4 ht40 => ?_)
  have h04 := hS.T0 ht4
  replace hS := hS.setT t4
  (repeat (first | ((with_reducible apply zs_move); (exact rfl); (exact rfl))))
  (try ((with_reducible apply zs_yes); exact rfl; exact rfl; (first | assumption | exact rfl))); refine zo_val rfl rfl (by decide) (zv_append (e := 5) rfl zq24 zq27 rfl (by simp) rfl (by simp; omega) fun t5 ht5 ht50 => ?_)
  have h05 := hS.T0 ht5
  replace hS := (hS.setTa h04 false).setT t5
  (repeat (first | ((with_reducible apply zs_move); (exact rfl); (exact rfl))))
  (try ((with_reducible apply zs_yes); exact rfl; exact rfl; (first | assumption | exact rfl))); refine zo_pure0 rfl rfl (by decide) (zp_xor rfl rfl rfl (xor128 y)) ?_
  (repeat (first | ((with_reducible apply (zs_lit (t := 35) [.tmp 34])); (exact rfl); (exact rfl); (exact rfl); (exact rfl); (exact un_sl rfl); (exact el_of rfl); (simp only [List.map_cons, List.map_nil, cellsD]; exact rfl); ((repeat (first | exact lit_nil | (apply lit_cons; exact rfl; (repeat (first | exact one_nil | (apply one_cons; (first | exact rfl | exact one_orow _ _ _)))))))); (decide))))
  (try ((with_reducible apply zs_yes); exact rfl; exact rfl; (first | assumption | exact rfl))); refine zo_val rfl rfl (by decide) (zv_append (e := 5) rfl zq24 zq27 rfl (by simp) rfl (by simp; omega) fun t6 ht6 ht60 => ?_)
  replace hS := (hS.setTa h05 false).setT t6
  have e2 : List.map cellsD [] ++ bytesD a ++ [[D.v (.int .u8 ((y ^^^ 128 : UInt8).toNat : Int))]] = bytesD (a ++ [y ^^^ 128]) := by rw [bytesD_append]; rfl
  rw [e2]
  generalize ((((s3.setT t4 true).setT t4 false).setT t5 true).setT t5 false).setT t6 true = s4 at hS ⊢
  refine zo_as 36 (.row (bytesD (a ++ [y ^^^ 128])) 1 0) rfl zq1 ?_
  have k1 := keys_one a b
  have k2 := keys_two a b
  have k3 : (!lt a a) = true := by rw [lt_irrefl]; rfl
  have k4 : lt a (a ++ [y]) = true := lt_snoc a y
  have k5 : lt (a ++ [y]) (a ++ [y ^^^ 128]) = decide (((y.toNat : Nat) : Int) < (((y ^^^ 128 : UInt8).toNat : Nat) : Int)) := by
    rw [lt_snoc2]
    by_cases hh : y < y ^^^ 128
    · rw [decide_eq_true hh, decide_eq_true]; have := UInt8.lt_iff_toNat_lt.1 hh; omega
    · rw [decide_eq_false hh, decide_eq_false]; intro h; exact hh (UInt8.lt_iff_toNat_lt.2 (by omega))
  (repeat (first | ((with_reducible apply zr_seq)) | ((with_reducible apply zr_region); (try simp only [List.append_eq, List.cons_append, List.nil_append])) | ((with_reducible apply zo_end)) | ((with_reducible apply zs_yes); (exact rfl); (exact rfl); (first | assumption | exact rfl)) | ((with_reducible apply zs_move); (exact rfl); (exact rfl)) | ((with_reducible apply zs_assign); (exact rfl); (exact rfl)) | ((with_reducible apply zs_not); (exact rfl); (exact rfl)) | ((with_reducible apply zs_pick_t); (exact rfl); (exact rfl); (first | assumption | exact rfl); (exact rfl)) | ((with_reducible apply zs_strne); (exact rfl); (exact rfl); (exact rfl)) | ((with_reducible apply zs_toStr); (exact rfl); (exact rfl); (exact un_sl rfl); (exact Try.underlying5); (exact Try.underlying9)) | ((with_reducible apply zs_beq); (exact rfl); (exact rfl); (exact rfl); (exact Try.underlying4)) | ((with_reducible apply zs_and); (exact rfl); (exact rfl); (intro hp_; first | exact congrArg some (gd_t hp_) | exact rfl); (exact rfl)) | ((with_reducible apply zs_orB); (exact rfl); (exact rfl); (exact rfl); (intro hp_; first | exact congrArg some (gd_t hp_) | exact rfl)) | ((with_reducible apply (zs_h_move [66, 67, 68, 69, 70, 71, 72, 73, 76, 77, 78])); (exact rfl); (first | exact GC.t rfl rfl | exact GC.f rfl rfl | exact GC.gt rfl rfl | exact GC.gf rfl rfl); (exact rfl); (intro hc_; first | exact congrArg some (gd_t hc_) | exact congrArg some (gd_t (band_l hc_)) | exact congrArg some (gd_t (band_l (band_l hc_))) | exact rfl)) | ((with_reducible apply (zs_h_not [66, 67, 68, 69, 70, 71, 72, 73, 76, 77, 78])); (exact rfl); (first | exact GC.t rfl rfl | exact GC.f rfl rfl | exact GC.gt rfl rfl | exact GC.gf rfl rfl); (exact rfl); (intro hc_; first | exact congrArg some (gd_t hc_) | exact congrArg some (gd_t (band_l hc_)) | exact congrArg some (gd_t (band_l (band_l hc_))) | exact rfl)) | ((with_reducible apply (zs_h_callQ [66, 67, 68, 69, 70, 71, 72, 73, 76, 77, 78] mless_pf cl_15)); (exact rfl); (first | exact GC.t rfl rfl | exact GC.f rfl rfl | exact GC.gt rfl rfl | exact GC.gf rfl rfl); (exact rfl); (intro hc_; (repeat ((with_reducible apply evs_cons); (first | exact congrArg some (gd_t hc_) | exact congrArg some (gd_t (band_l hc_)) | exact rfl))); exact evs_nil); ((repeat (first | exact DLes.nil | (apply DLes.cons; first | exact DLe.refl _ | exact DLe.nilB | exact DLe.nilR | exact DLe.nilI | exact dle_m3 | exact dle_m2 | exact dle_m0 | exact dle_p1 | exact dle_m12)))); (intro hc_; first | exact trivial | assumption | ((try simp only [Bool.and_eq_true, decide_eq_true_eq, Bool.not_eq_true'] at hc_); (repeat' (with_reducible refine And.intro ?_ ?_)) <;> first | assumption | omega | exact trivial | (simp; done) | (simp; omega))))))
  rw [show (!(lt a b && lt b a) && !lt a a && lt a (a ++ [y])) = true from by rw [k2, k3, k4]; rfl]
  (repeat (first | ((with_reducible apply zs_yes); (exact rfl); (exact rfl); (first | assumption | exact rfl)) | ((with_reducible apply zs_move); (exact rfl); (exact rfl)) | ((with_reducible apply (zs_callQ mless_pf cl_15)); (exact rfl); (exact rfl); ((repeat (first | exact DLes.nil | (apply DLes.cons; first | exact DLe.refl _ | exact DLe.nilB | exact DLe.nilR | exact DLe.nilI | exact dle_m3 | exact dle_m2 | exact dle_m0 | exact dle_p1 | exact dle_m12)))); (first | exact trivial | assumption | ((repeat' (with_reducible refine And.intro ?_ ?_)) <;> first | assumption | omega | exact trivial | (simp; done) | (simp; omega))))))
  (try ((with_reducible apply zs_yes); exact rfl; exact rfl; (first | assumption | exact rfl))); refine zo_pure0 rfl rfl (by decide) (zp_xor rfl rfl rfl (xor128 y)) ?_
  (repeat (first | ((with_reducible apply zs_yes); (exact rfl); (exact rfl); (first | assumption | exact rfl)) | ((with_reducible apply zs_move); (exact rfl); (exact rfl)) | ((with_reducible apply zs_lss); (exact rfl); (exact rfl); (exact rfl)) | ((with_reducible apply zs_pick_t); (exact rfl); (exact rfl); (first | assumption | exact rfl); (exact rfl)) | ((with_reducible apply zs_beq); (exact rfl); (exact rfl); (exact rfl); (exact Try.underlying4))))
  rw [show (lt (a ++ [y]) (a ++ [y ^^^ 128]) == decide (((y.toNat : Nat) : Int) < (((y ^^^ 128 : UInt8).toNat : Nat) : Int))) = true from by rw [k5]; simp]
  (repeat (first | ((with_reducible apply zs_yes); (exact rfl); (exact rfl); (first | assumption | exact rfl)) | ((with_reducible apply (zs_lit (t := 76) [.const (.int .u8 127)])); (exact rfl); (exact rfl); (exact rfl); (exact rfl); (exact un_sl rfl); (exact el_of rfl); (simp only [List.map_cons, List.map_nil, cellsD]; exact rfl); ((repeat (first | exact lit_nil | (apply lit_cons; exact rfl; (repeat (first | exact one_nil | (apply one_cons; (first | exact rfl | exact one_orow _ _ _)))))))); (decide)) | ((with_reducible apply (zs_lit (t := 77) [.const (.int .u8 128)])); (exact rfl); (exact rfl); (exact rfl); (exact rfl); (exact un_sl rfl); (exact el_of rfl); (simp only [List.map_cons, List.map_nil, cellsD]; exact rfl); ((repeat (first | exact lit_nil | (apply lit_cons; exact rfl; (repeat (first | exact one_nil | (apply one_cons; (first | exact rfl | exact one_orow _ _ _)))))))); (decide))))
  refine zo_as 76 (.row (bytesD [127]) 1 0) rfl zq1 ?_
  refine zo_as 77 (.row (bytesD [128]) 1 0) rfl zq1 ?_
  (repeat (first | ((with_reducible apply zo_end)) | ((with_reducible apply zs_yes); (exact rfl); (exact rfl); (first | assumption | exact rfl)) | ((with_reducible apply zs_move); (exact rfl); (exact rfl)) | ((with_reducible apply zs_assign); (exact rfl); (exact rfl)) | ((with_reducible apply zs_pick_t); (exact rfl); (exact rfl); (first | assumption | exact rfl); (exact rfl)) | ((with_reducible apply (zs_callQ awake19_pf cl_14)); (exact rfl); (exact rfl); ((repeat (first | exact DLes.nil | (apply DLes.cons; first | exact DLe.refl _ | exact DLe.nilB | exact DLe.nilR | exact DLe.nilI | exact dle_m3 | exact dle_m2 | exact dle_m0 | exact dle_p1 | exact dle_m12)))); (first | exact trivial | assumption | ((repeat' (with_reducible refine And.intro ?_ ?_)) <;> first | assumption | omega | exact trivial | (simp; done) | (simp; omega)))) | ((with_reducible apply (zs_callQ mless_pf cl_15)); (exact rfl); (exact rfl); ((repeat (first | exact DLes.nil | (apply DLes.cons; first | exact DLe.refl _ | exact DLe.nilB | exact DLe.nilR | exact DLe.nilI | exact dle_m3 | exact dle_m2 | exact dle_m0 | exact dle_p1 | exact dle_m12)))); (first | exact trivial | assumption | ((repeat' (with_reducible refine And.intro ?_ ?_)) <;> first | assumption | omega | exact trivial | (simp; done) | (simp; omega)))) | ((with_reducible apply zr_retZ); (exact rfl); (repeat (first | exact resD_nil _ _ _ | ((with_reducible apply resD_tmp); (exact rfl)) | ((with_reducible apply resD_cell_agg); (exact rfl); (exact sh_of rfl); (first | assumption | exact St.setH_self _ _ _ | exact Sep.at_ (i := 0) (by assumption) rfl | exact Sep.at_ (i := 1) (by assumption) rfl | exact Sep.at_ (i := 2) (by assumption) rfl | exact Sep.at_ (i := 3) (by assumption) rfl | exact Sep.at_ (i := 4) (by assumption) rfl | exact Sep.at_ (i := 5) (by assumption) rfl | exact Sep.at_ (i := 6) (by assumption) rfl); (exact rfl)) | ((with_reducible apply resD_cell); (exact rfl); (exact sh_of rfl); (first | assumption | exact St.setH_self _ _ _ | exact Sep.at_ (i := 0) (by assumption) rfl | exact Sep.at_ (i := 1) (by assumption) rfl | exact Sep.at_ (i := 2) (by assumption) rfl | exact Sep.at_ (i := 3) (by assumption) rfl | exact Sep.at_ (i := 4) (by assumption) rfl | exact Sep.at_ (i := 5) (by assumption) rfl | exact Sep.at_ (i := 6) (by assumption) rfl); (exact rfl)))); (simp only [resOf]))))
  exact KE.mk _ hS.ext hK
end Go.Proofs.ZtLe
