/- A part of the proof of NodeMsgs: walks of the functions that it reaches. No condition. -/
import Derived.Test.YtocpidlgcakldaaZtMeO
import Derived.Test.YtocpidlgcakldaaZtMeC
import Derived.Test.YtocpidlgcakldaaZtInT
import Derived.Test.YtocpidlgcakldaaZtCl
import Derived.Test.YtocpidlgcakldaaZmP2
import Derived.Test.YtocpidlgcakldaaZmAuto
namespace Go.Proofs.ZtLe
open Go.RowKit Go.Proofs Go.Proofs.Zm
set_option linter.unusedVariables false
set_option linter.unusedSimpArgs false
set_option maxHeartbeats 20000000
set_option maxRecDepth 100000
attribute [local irreducible] ZWp ZOps ZPure ZPure0 ZVal ZOp SoundF

/-! ### a Config's numbers -/
def cfgL (c : CfgV) : List Int := [c.keyMax, c.valMax, c.c, c.f, c.m, c.l, c.e, c.maxKeys, c.z]
def inC (n : Int) : Bool := !(decide (n < 0) || decide (1000 < n))
def okC (c : CfgV) : Bool := (cfgL c).all inC
theorem inC_t {n : Int} (h : inC n = true) : 0 ≤ n ∧ n ≤ 1000 := by
  unfold inC at h; simp at h; omega
theorem okC_t {c : CfgV} (h : okC c = true) : (0 ≤ c.keyMax ∧ c.keyMax ≤ 1000) ∧ (0 ≤ c.valMax ∧ c.valMax ≤ 1000) ∧ (0 ≤ c.f ∧ c.f ≤ 1000) ∧ (0 ≤ c.m ∧ c.m ≤ 1000) ∧ (0 ≤ c.l ∧ c.l ≤ 1000) := by
  unfold okC cfgL at h
  simp only [List.all_cons, List.all_nil, Bool.and_eq_true] at h
  exact ⟨inC_t h.1, inC_t h.2.1, inC_t h.2.2.2.1, inC_t h.2.2.2.2.1, inC_t h.2.2.2.2.2.1⟩
theorem okC_f {c : CfgV} {i : Nat} {n : Int} (h : (cfgL c)[i]? = some n) (hn : inC n = false) : okC c = false := by
  unfold okC
  rw [List.all_eq_false]
  exact ⟨n, List.mem_of_getElem? h, by rw [hn]; simp⟩
theorem okC_all {c : CfgV} (h : ∀ n ∈ (cfgL c).take 9, inC n = true) : okC c = true := List.all_eq_true.2 h
theorem cfgL_get {c : CfgV} {i : Nat} (h : i < 9) : ∃ n, (cfgL c)[i]? = some n ∧ (cfgL c).take (i + 1) = (cfgL c).take i ++ [n] ∧ ((cfgL c).map fun n => [D.v (.int .i64 n)]).getD i [] = [.v (.int .i64 n)] := by
  obtain ⟨n, h1, h2, h3, h4⟩ := elt (l := cfgL c) (i := i) (by simpa [cfgL] using h)
  exact ⟨n, h1, h2, h4 _⟩
theorem nok_pf {c : CfgV} (h : True) : PureF Try.prog 46 [.agg (cfgD c)] (.v (.bool (okC c))) := by
  refine pure_of Try.func46 rfl Try.results46 (by rw [Try.ntmps46]; simp) (fun w0 st K hK => ?_); rw [Try.ntmps46]
  have hS := Sep.nil st
  (repeat (first | ((with_reducible apply zr_seq)) | ((with_reducible apply zr_region); (try simp only [List.append_eq, List.cons_append, List.nil_append])) | ((with_reducible apply zo_end)) | ((with_reducible apply zs_move); (exact rfl); (exact rfl)) | ((with_reducible apply zs_assign); (exact rfl); (exact rfl)) | ((with_reducible apply zs_len); (exact rfl); (exact rfl); (exact un_sl rfl)) | ((with_reducible apply zr_block)) | ((with_reducible apply zs_field_ref); (exact rfl); (exact rfl); (exact fld_of rfl)) | ((with_reducible apply zs_load_ref); (exact rfl); (exact rfl); (exact sh_of rfl); (exact rfl)) | ((with_reducible apply (zs_boxRef (t := 1))); (exact rfl); (exact rfl)) | ((with_reducible apply (zs_lit (t := 23) [.tmp 6, .tmp 8, .tmp 10, .tmp 12, .tmp 14, .tmp 16, .tmp 18, .tmp 20, .tmp 22])); (exact rfl); (exact rfl); (exact rfl); (exact rfl); (exact un_sl rfl); (exact el_of rfl); (simp only [List.map_cons, List.map_nil, cellsD]; exact rfl); ((repeat (first | exact lit_nil | (apply lit_cons; exact rfl; (repeat (first | exact one_nil | (apply one_cons; (first | exact rfl | exact one_orow _ _ _)))))))); (decide))))
  refine zr_as 23 (.row ((cfgL c).map fun n => [D.v (.int .i64 n)]) 1 0) rfl zq7 ?_
  refine zr_as 24 (.v (.int .i64 9)) rfl zq7 ?_
  have hr0 : ((cfgL c).map fun n => [D.v (.int .i64 n)]).length = 9 := rfl
  refine zr_loopK [23, 24] (fun m e s => ∃ i : Nat, m + i = 9 ∧ e = [(25, .v (.int .i64 (i : Nat)))] ∧ Zm.Sep st s [] ∧ ∀ n ∈ (cfgL c).take i, inC n = true) 9 _ zq17 ⟨0, by omega, rfl, hS, by simp⟩ zq19 ?_
  rintro m e s ⟨i, hm, rfl, hS, hall⟩
  (repeat (first | ((with_reducible apply zr_seq)) | ((with_reducible apply zr_region); (try simp only [List.append_eq, List.cons_append, List.nil_append])) | ((with_reducible apply zo_end)) | ((with_reducible apply zs_lss); (exact rfl); (exact rfl); (exact rfl))))
  (first | refine zr_cond rfl (fun h1 => ?_) (fun h1 => ?_) | refine zs_split rfl rfl (fun h1 => ?_) (fun h1 => ?_)) <;> have h1' := h1 <;> (try simp only [decide_eq_true_eq, decide_eq_false_iff_not, Bool.and_eq_true, Bool.or_eq_true, Bool.and_eq_false_iff, Bool.or_eq_false_iff, Bool.not_eq_true', Bool.not_eq_false', Bool.not_eq_true, Bool.not_eq_false, Int.not_le, Int.not_lt, Classical.not_not, Decidable.not_not, ne_eq, beq_iff_eq, bne_iff_ne] at h1')
  · have hi : i < 9 := by have q : (i : Int) < 9 := h1'; omega
    obtain ⟨n, hn, hnt, hng⟩ := cfgL_get (c := c) hi
    (repeat (first | ((with_reducible apply zr_seq)) | ((with_reducible apply zr_region); (try simp only [List.append_eq, List.cons_append, List.nil_append])) | ((with_reducible apply zo_end)) | ((with_reducible apply zs_move); (exact rfl); (exact rfl)) | ((with_reducible apply zs_assign); (exact rfl); (exact rfl)) | ((with_reducible apply zs_lss); (exact rfl); (exact rfl); (exact rfl)) | ((with_reducible apply zr_block)) | ((with_reducible apply zr_skip')) | ((with_reducible apply zs_load_ref); (exact rfl); (exact rfl); (exact sh_of rfl); (exact rfl)) | ((with_reducible apply zs_orB); (exact rfl); (exact rfl); (exact rfl); (intro hp_; first | exact congrArg some (gd_t hp_) | exact rfl)) | ((with_reducible apply zs_idxE); (exact rfl); (exact rfl); (exact rfl); (exact un_sl rfl); (exact ii_of rfl); (first | omega | (simp only [List.length_map, List.length_take, List.length_drop, List.length_append, List.length_cons, List.length_nil, List.length_replicate, rowR_length, intR_length, msgR_length, pairR_length]; omega) | decide); (first | omega | (simp only [List.length_map, List.length_take, List.length_drop, List.length_append, List.length_cons, List.length_nil, List.length_replicate, rowR_length, intR_length, msgR_length, pairR_length]; omega) | decide); (first | (with_reducible exact Int.toNat_natCast _) | (simp only [Int.reduceToNat]; exact rfl) | exact rfl); (assumption)) | ((with_reducible apply (zs_h_move [])); (exact rfl); (first | exact GC.t rfl rfl | exact GC.f rfl rfl | exact GC.gt rfl rfl | exact GC.gf rfl rfl); (exact rfl); (intro hc_; first | exact congrArg some (gd_t hc_) | exact congrArg some (gd_t (band_l hc_)) | exact congrArg some (gd_t (band_l (band_l hc_))) | exact rfl)) | ((with_reducible apply (zs_h_gtr [])); (exact rfl); (first | exact GC.t rfl rfl | exact GC.f rfl rfl | exact GC.gt rfl rfl | exact GC.gf rfl rfl); (exact rfl); (intro hc_; first | exact congrArg some (gd_t hc_) | exact congrArg some (gd_t (band_l hc_)) | exact congrArg some (gd_t (band_l (band_l hc_))) | exact rfl); (intro hc_; first | exact congrArg some (gd_t hc_) | exact congrArg some (gd_t (band_l hc_)) | exact congrArg some (gd_t (band_l (band_l hc_))) | exact rfl))))
    cases hin : (decide (n < 0) || decide (1000 < n))
    · (repeat (first | ((with_reducible apply zr_region); (try simp only [List.append_eq, List.cons_append, List.nil_append])) | ((with_reducible apply zo_end)) | ((with_reducible apply zs_move); (exact rfl); (exact rfl)) | ((with_reducible apply zs_add); (exact rfl); (exact rfl); (exact rfl); (first | (with_reducible assumption) | exact wrap_in64 (by omega) (by omega))) | ((with_reducible apply zr_cond_f); (exact rfl); (first | assumption | exact rfl)) | ((with_reducible apply zr_skipB))))
      refine ⟨m - 1, _, by omega, ⟨i + 1, by omega, rfl, hS, fun x hx => ?_⟩, zq19, zq19⟩
      rw [hnt, List.mem_append] at hx
      rcases hx with hx | hx
      · exact hall x hx
      · rw [List.mem_singleton] at hx; subst hx; unfold inC; rw [hin]; rfl
    · rw [okC_f hn (by unfold inC; rw [hin]; rfl)] at hK
      (repeat (first | ((with_reducible apply zr_seq)) | ((with_reducible apply zr_region); (try simp only [List.append_eq, List.cons_append, List.nil_append])) | ((with_reducible apply zo_end)) | ((with_reducible apply zs_assign); (exact rfl); (exact rfl)) | ((with_reducible apply zr_cond_t); (exact rfl); (first | assumption | exact rfl)) | ((with_reducible apply zr_retZ); (exact rfl); (repeat (first | exact resD_nil _ _ _ | ((with_reducible apply resD_tmp); (exact rfl)) | ((with_reducible apply resD_cell_agg); (exact rfl); (exact sh_of rfl); (first | assumption | exact St.setH_self _ _ _ | exact Sep.at_ (i := 0) zq35 rfl | exact Sep.at_ (i := 1) zq35 rfl | exact Sep.at_ (i := 2) zq35 rfl | exact Sep.at_ (i := 3) zq35 rfl | exact Sep.at_ (i := 4) zq35 rfl | exact Sep.at_ (i := 5) zq35 rfl | exact Sep.at_ (i := 6) zq35 rfl); (exact rfl)) | ((with_reducible apply resD_cell); (exact rfl); (exact sh_of rfl); (first | assumption | exact St.setH_self _ _ _ | exact Sep.at_ (i := 0) zq35 rfl | exact Sep.at_ (i := 1) zq35 rfl | exact Sep.at_ (i := 2) zq35 rfl | exact Sep.at_ (i := 3) zq35 rfl | exact Sep.at_ (i := 4) zq35 rfl | exact Sep.at_ (i := 5) zq35 rfl | exact Sep.at_ (i := 6) zq35 rfl); (exact rfl)))); (simp only [resOf]))))
      exact KE.mk _ hS.ext hK
  · have hi : i = 9 := by have q : (9 : Int) ≤ i := h1'; omega
    subst hi
    rw [okC_all hall] at hK
    (repeat (first | ((with_reducible apply zr_seq)) | ((with_reducible apply zr_region); (try simp only [List.append_eq, List.cons_append, List.nil_append])) | ((with_reducible apply zo_end)) | ((with_reducible apply zs_assign); (exact rfl); (exact rfl)) | (with_reducible refine zr_exit ?_; simp only [Zthen, Zblock, ↓reduceIte]) | ((with_reducible apply zr_retZ); (exact rfl); (repeat (first | exact resD_nil _ _ _ | ((with_reducible apply resD_tmp); (exact rfl)) | ((with_reducible apply resD_cell_agg); (exact rfl); (exact sh_of rfl); (first | assumption | exact St.setH_self _ _ _ | exact Sep.at_ (i := 0) zq35 rfl | exact Sep.at_ (i := 1) zq35 rfl | exact Sep.at_ (i := 2) zq35 rfl | exact Sep.at_ (i := 3) zq35 rfl | exact Sep.at_ (i := 4) zq35 rfl | exact Sep.at_ (i := 5) zq35 rfl | exact Sep.at_ (i := 6) zq35 rfl); (exact rfl)) | ((with_reducible apply resD_cell); (exact rfl); (exact sh_of rfl); (first | assumption | exact St.setH_self _ _ _ | exact Sep.at_ (i := 0) zq35 rfl | exact Sep.at_ (i := 1) zq35 rfl | exact Sep.at_ (i := 2) zq35 rfl | exact Sep.at_ (i := 3) zq35 rfl | exact Sep.at_ (i := 4) zq35 rfl | exact Sep.at_ (i := 5) zq35 rfl | exact Sep.at_ (i := 6) zq35 rfl); (exact rfl)))); (simp only [resOf]))))
    exact KE.mk _ hS.ext hK
theorem far_pf {c : CfgV} (h : True) : PureF Try.prog 50 [.agg (cfgD c)] (.v (.bool (!okC c))) := by
  refine pure_of Try.func50 rfl Try.results50 (by rw [Try.ntmps50]; simp) (fun w0 st K hK => ?_); rw [Try.ntmps50]
  have hS := Sep.nil st
  (repeat (first | ((with_reducible apply zr_seq)) | ((with_reducible apply zr_region); (try simp only [List.append_eq, List.cons_append, List.nil_append])) | ((with_reducible apply zo_end)) | ((with_reducible apply zs_assign); (exact rfl); (exact rfl)) | ((with_reducible apply zs_field_ref); (exact rfl); (exact rfl); (exact fld_of rfl)) | ((with_reducible apply zs_load_ref); (exact rfl); (exact rfl); (exact sh_of rfl); (exact rfl)) | ((with_reducible apply (zs_boxRef (t := 1))); (exact rfl); (exact rfl))))
  (try ((with_reducible apply zs_yes); exact rfl; exact rfl; (first | assumption | exact rfl))); refine zo_pure0 rfl rfl (by decide) (zp_buildA rfl zq32 Try.underlying112 (ii_of rfl) (plA_ok 9 1) rfl rfl) ?_
  (repeat (first | ((with_reducible apply zr_seq)) | ((with_reducible apply zr_region); (try simp only [List.append_eq, List.cons_append, List.nil_append])) | ((with_reducible apply zo_end)) | ((with_reducible apply zs_assign); (exact rfl); (exact rfl)) | ((with_reducible apply zr_block)) | ((with_reducible apply (zs_allocRef (t := 3))); (exact el_of rfl); (simp [oneD, Value.oneCell']); (exact sh_of rfl); (exact rfl); (intro _; exact rfl); (exact rfl); (simp [cellsD, oneD, Value.oneCell', msgD, nodeD, pairD, cfgD]))))
  refine zr_as 3 (.ref ((cfgL c).map fun n => D.v (.int .i64 n))) rfl zq7 ?_
  refine zr_loopK [3] (fun m e s => ∃ i : Nat, m + i = 9 ∧ e = [(4, .v (.int .i64 (i : Nat)))] ∧ Zm.Sep st s [] ∧ ∀ n ∈ (cfgL c).take i, inC n = true) 9 _ zq17 ⟨0, by omega, rfl, hS, by simp⟩ zq19 ?_
  rintro m e s ⟨i, hm, rfl, hS, hall⟩
  (repeat (first | ((with_reducible apply zr_seq)) | ((with_reducible apply zr_region); (try simp only [List.append_eq, List.cons_append, List.nil_append])) | ((with_reducible apply zo_end)) | ((with_reducible apply zs_move); (exact rfl); (exact rfl)) | ((with_reducible apply zs_lss); (exact rfl); (exact rfl); (exact rfl))))
  (first | refine zr_cond rfl (fun h1 => ?_) (fun h1 => ?_) | refine zs_split rfl rfl (fun h1 => ?_) (fun h1 => ?_)) <;> have h1' := h1 <;> (try simp only [decide_eq_true_eq, decide_eq_false_iff_not, Bool.and_eq_true, Bool.or_eq_true, Bool.and_eq_false_iff, Bool.or_eq_false_iff, Bool.not_eq_true', Bool.not_eq_false', Bool.not_eq_true, Bool.not_eq_false, Int.not_le, Int.not_lt, Classical.not_not, Decidable.not_not, ne_eq, beq_iff_eq, bne_iff_ne] at h1')
  · have hi : i < 9 := by have q : (i : Int) < 9 := h1'; omega
    obtain ⟨n, hn, hnt, _⟩ := cfgL_get (c := c) hi
    have hnd : List.drop (i * 1) ((cfgL c).map fun n => D.v (.int .i64 n)) = .v (.int .i64 n) :: List.drop (i + 1) ((cfgL c).map fun n => D.v (.int .i64 n)) := by
      obtain ⟨hl, hge⟩ := List.getElem?_eq_some_iff.1 hn
      rw [Nat.mul_one, List.drop_eq_getElem_cons (by simpa using hl), List.getElem_map, hge]
    have h0 : decide ((i : Int) < 9) = true := h1
    (repeat (first | ((with_reducible apply zr_seq)) | ((with_reducible apply zr_region); (try simp only [List.append_eq, List.cons_append, List.nil_append])) | ((with_reducible apply zs_move); (exact rfl); (exact rfl)) | ((with_reducible apply zr_block)) | ((with_reducible apply zr_skip'))))
    (try ((with_reducible apply zs_yes); exact rfl; exact rfl; (first | assumption | exact rfl))); refine zo_pure0 rfl rfl (by decide) (zp_idxA rfl Try.underlying112 (ii_of rfl).choose_spec.1 (ii_of rfl).choose_spec.2 rfl rfl (by omega) (by omega)) ?_
    rw [Int.toNat_natCast, hnd]
    cases ha : decide (n < 0)
    · (repeat (first | ((with_reducible apply zs_yes); (exact rfl); (exact rfl); (first | assumption | exact rfl)) | ((with_reducible apply zs_move); (exact rfl); (exact rfl)) | ((with_reducible apply zs_lss); (exact rfl); (exact rfl); (exact rfl)) | ((with_reducible apply zs_load_ref); (exact rfl); (exact rfl); (exact sh_of rfl); (exact rfl))))
      (try ((with_reducible apply zs_yes); exact rfl; exact rfl; (first | assumption | exact rfl))); refine zo_pure0 rfl rfl (by decide) (zp_idxA rfl Try.underlying112 (ii_of rfl).choose_spec.1 (ii_of rfl).choose_spec.2 rfl rfl (by omega) (by omega)) ?_
      rw [Int.toNat_natCast, hnd]
      (repeat (first | ((with_reducible apply zo_end)) | ((with_reducible apply zs_yes); (exact rfl); (exact rfl); (first | assumption | exact rfl)) | ((with_reducible apply zs_gtr); (exact rfl); (exact rfl); (exact rfl)) | ((with_reducible apply zs_pick_f); (exact rfl); (exact rfl); (first | assumption | exact rfl); (exact rfl)) | ((with_reducible apply zs_load_ref); (exact rfl); (exact rfl); (exact sh_of rfl); (exact rfl))))
      cases hb : decide (1000 < n)
      · (repeat (first | ((with_reducible apply zr_region); (try simp only [List.append_eq, List.cons_append, List.nil_append])) | ((with_reducible apply zo_end)) | ((with_reducible apply zs_move); (exact rfl); (exact rfl)) | ((with_reducible apply zs_assign); (exact rfl); (exact rfl)) | ((with_reducible apply zs_add); (exact rfl); (exact rfl); (exact rfl); (first | (with_reducible assumption) | exact wrap_in64 (by omega) (by omega))) | ((with_reducible apply zr_cond_f); (exact rfl); (first | assumption | exact rfl)) | ((with_reducible apply zr_skipB))))
        refine ⟨m - 1, _, by omega, ⟨i + 1, by omega, rfl, hS, fun x hx => ?_⟩, zq19, zq19⟩
        rw [hnt, List.mem_append] at hx
        rcases hx with hx | hx
        · exact hall x hx
        · rw [List.mem_singleton] at hx; subst hx; unfold inC; rw [ha, hb]; rfl
      · rw [okC_f hn (by unfold inC; rw [hb]; simp)] at hK
        (repeat (first | ((with_reducible apply zr_seq)) | ((with_reducible apply zr_region); (try simp only [List.append_eq, List.cons_append, List.nil_append])) | ((with_reducible apply zo_end)) | ((with_reducible apply zs_assign); (exact rfl); (exact rfl)) | ((with_reducible apply zr_cond_t); (exact rfl); (first | assumption | exact rfl)) | ((with_reducible apply zr_retZ); (exact rfl); (repeat (first | exact resD_nil _ _ _ | ((with_reducible apply resD_tmp); (exact rfl)) | ((with_reducible apply resD_cell_agg); (exact rfl); (exact sh_of rfl); (first | assumption | exact St.setH_self _ _ _ | exact Sep.at_ (i := 0) zq35 rfl | exact Sep.at_ (i := 1) zq35 rfl | exact Sep.at_ (i := 2) zq35 rfl | exact Sep.at_ (i := 3) zq35 rfl | exact Sep.at_ (i := 4) zq35 rfl | exact Sep.at_ (i := 5) zq35 rfl | exact Sep.at_ (i := 6) zq35 rfl); (exact rfl)) | ((with_reducible apply resD_cell); (exact rfl); (exact sh_of rfl); (first | assumption | exact St.setH_self _ _ _ | exact Sep.at_ (i := 0) zq35 rfl | exact Sep.at_ (i := 1) zq35 rfl | exact Sep.at_ (i := 2) zq35 rfl | exact Sep.at_ (i := 3) zq35 rfl | exact Sep.at_ (i := 4) zq35 rfl | exact Sep.at_ (i := 5) zq35 rfl | exact Sep.at_ (i := 6) zq35 rfl); (exact rfl)))); (simp only [resOf]))))
        exact KE.mk _ hS.ext hK
    · rw [okC_f hn (by unfold inC; rw [ha]; simp)] at hK
      (repeat (first | ((with_reducible apply zr_seq)) | ((with_reducible apply zr_region); (try simp only [List.append_eq, List.cons_append, List.nil_append])) | ((with_reducible apply zo_end)) | ((with_reducible apply zs_noU); (exact rfl); (exact rfl); (first | assumption | exact rfl | (simp only [Bool.not_false, Bool.not_true]; assumption)); (exact rfl)) | ((with_reducible apply zs_move); (exact rfl); (exact rfl)) | ((with_reducible apply zs_assign); (exact rfl); (exact rfl)) | ((with_reducible apply zs_lss); (exact rfl); (exact rfl); (exact rfl)) | ((with_reducible apply zs_pick_t); (exact rfl); (exact rfl); (first | assumption | exact rfl); (exact rfl)) | ((with_reducible apply zr_cond_t); (exact rfl); (first | assumption | exact rfl)) | ((with_reducible apply zs_load_ref); (exact rfl); (exact rfl); (exact sh_of rfl); (exact rfl)) | ((with_reducible apply zr_retZ); (exact rfl); (repeat (first | exact resD_nil _ _ _ | ((with_reducible apply resD_tmp); (exact rfl)) | ((with_reducible apply resD_cell_agg); (exact rfl); (exact sh_of rfl); (first | assumption | exact St.setH_self _ _ _ | exact Sep.at_ (i := 0) zq35 rfl | exact Sep.at_ (i := 1) zq35 rfl | exact Sep.at_ (i := 2) zq35 rfl | exact Sep.at_ (i := 3) zq35 rfl | exact Sep.at_ (i := 4) zq35 rfl | exact Sep.at_ (i := 5) zq35 rfl | exact Sep.at_ (i := 6) zq35 rfl); (exact rfl)) | ((with_reducible apply resD_cell); (exact rfl); (exact sh_of rfl); (first | assumption | exact St.setH_self _ _ _ | exact Sep.at_ (i := 0) zq35 rfl | exact Sep.at_ (i := 1) zq35 rfl | exact Sep.at_ (i := 2) zq35 rfl | exact Sep.at_ (i := 3) zq35 rfl | exact Sep.at_ (i := 4) zq35 rfl | exact Sep.at_ (i := 5) zq35 rfl | exact Sep.at_ (i := 6) zq35 rfl); (exact rfl)))); (simp only [resOf]))))
      exact KE.mk _ hS.ext hK
  · have hi : i = 9 := by have q : (9 : Int) ≤ i := h1'; omega
    subst hi
    rw [okC_all hall] at hK
    (repeat (first | ((with_reducible apply zr_seq)) | ((with_reducible apply zr_region); (try simp only [List.append_eq, List.cons_append, List.nil_append])) | ((with_reducible apply zo_end)) | ((with_reducible apply zs_assign); (exact rfl); (exact rfl)) | (with_reducible refine zr_exit ?_; simp only [Zthen, Zblock, ↓reduceIte]) | ((with_reducible apply zr_retZ); (exact rfl); (repeat (first | exact resD_nil _ _ _ | ((with_reducible apply resD_tmp); (exact rfl)) | ((with_reducible apply resD_cell_agg); (exact rfl); (exact sh_of rfl); (first | assumption | exact St.setH_self _ _ _ | exact Sep.at_ (i := 0) zq35 rfl | exact Sep.at_ (i := 1) zq35 rfl | exact Sep.at_ (i := 2) zq35 rfl | exact Sep.at_ (i := 3) zq35 rfl | exact Sep.at_ (i := 4) zq35 rfl | exact Sep.at_ (i := 5) zq35 rfl | exact Sep.at_ (i := 6) zq35 rfl); (exact rfl)) | ((with_reducible apply resD_cell); (exact rfl); (exact sh_of rfl); (first | assumption | exact St.setH_self _ _ _ | exact Sep.at_ (i := 0) zq35 rfl | exact Sep.at_ (i := 1) zq35 rfl | exact Sep.at_ (i := 2) zq35 rfl | exact Sep.at_ (i := 3) zq35 rfl | exact Sep.at_ (i := 4) zq35 rfl | exact Sep.at_ (i := 5) zq35 rfl | exact Sep.at_ (i := 6) zq35 rfl); (exact rfl)))); (simp only [resOf]))))
    exact KE.mk _ hS.ext hK
end Go.Proofs.ZtLe
