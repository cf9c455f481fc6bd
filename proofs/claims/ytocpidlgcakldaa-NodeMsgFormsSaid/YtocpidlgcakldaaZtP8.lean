/- A part of the proof of NodeMsgForms: walks of the functions that it reaches. No condition. -/
import Derived.Test.YtocpidlgcakldaaZtNoD
import Derived.Test.YtocpidlgcakldaaZmAuto
namespace Go.Proofs.ZtLe
open Go.RowKit Go.Proofs Go.Proofs.Zm
set_option linter.unusedVariables false
set_option linter.unusedSimpArgs false
set_option maxHeartbeats 20000000
set_option maxRecDepth 100000
attribute [local irreducible] ZWp ZOps ZPure ZPure0 ZVal ZOp SoundF

/-! ### dumbwaiterref18.NodeOk -/
theorem leafG_eq {c : CfgV} {n : NodeV} (hv : n.vals.any (longV c) = false) : leafG c n = (decide (((n.keys.length : Nat) : Int) ≤ c.l) && decide (((n.vals.length : Nat) : Int) = (n.keys.length : Nat)) && decide (((n.kids.length : Nat) : Int) = 0) && decide (((n.msgs.length : Nat) : Int) = 0)) := by
  unfold leafG
  rw [hv, Bool.eq_iff_iff]
  simp only [Bool.and_eq_true, decide_eq_true_eq, Bool.not_false, and_true]
  omega
theorem leafG_f {c : CfgV} {n : NodeV} (hv : n.vals.any (longV c) = true) : leafG c n = false := by unfold leafG; rw [hv]; simp
theorem innerG_eq {c : CfgV} {n : NodeV} (h1 : n.kids.any badKid = false) (h2 : n.msgs.any (badMsg c) = false) : innerG c n = (decide (1 ≤ ((n.kids.length : Nat) : Int)) && decide (((n.kids.length : Nat) : Int) ≤ c.f) && decide (((n.keys.length : Nat) : Int) = ((n.kids.length : Nat) : Int) - 1) && decide (((n.vals.length : Nat) : Int) = 0) && decide (((n.msgs.length : Nat) : Int) ≤ c.m)) := by
  unfold innerG; rw [h1, h2]; simp
theorem innerG_f1 {c : CfgV} {n : NodeV} (h : n.kids.any badKid = true) : innerG c n = false := by unfold innerG; rw [h]; simp
theorem innerG_f2 {c : CfgV} {n : NodeV} (h : n.msgs.any (badMsg c) = true) : innerG c n = false := by unfold innerG; rw [h]; simp
theorem goodN_r {c : CfgV} {n : NodeV} (h : risingB c n.keys = false) : goodN c n = false := by unfold goodN; rw [h]; rfl
theorem goodN_l {c : CfgV} {n : NodeV} (h : risingB c n.keys = true) (hl : n.leaf = true) : goodN c n = leafG c n := by unfold goodN; rw [h, hl]; rfl
theorem goodN_i {c : CfgV} {n : NodeV} (h : risingB c n.keys = true) (hl : n.leaf = false) : goodN c n = innerG c n := by unfold goodN; rw [h, hl]; rfl
theorem any_hit {α : Type} {p : α → Bool} {l : List α} {i : Nat} {x : α} (h : l[i]? = some x) (hp : p x = true) : l.any p = true := List.any_eq_true.2 ⟨x, List.mem_of_getElem? h, hp⟩
theorem any_none {α : Type} {p : α → Bool} {l : List α} (h : ∀ y ∈ l, p y = false) : l.any p = false := by
  rw [List.any_eq_false]; exact fun y hy => by rw [h y hy]; simp
end Go.Proofs.ZtLe
namespace Go.Proofs.ZtLe
open Go.RowKit Go.Proofs Go.Proofs.Zm
set_option linter.unusedVariables false
set_option linter.unusedSimpArgs false
set_option maxHeartbeats 20000000
set_option maxRecDepth 100000
attribute [local irreducible] ZWp ZOps ZPure ZPure0 ZVal ZOp SoundF

/-! ### slices.Grow of nil, slices.Concat: what they make is owned -/
theorem sumk_take {l : List Bs} {i : Nat} {b : Bs} (ht : l.take (i + 1) = l.take i ++ [b]) : (l.take (i + 1)).flatten = (l.take i).flatten ++ b := by rw [ht]; simp
theorem sumk_le (l : List Bs) (i : Nat) : (l.take i).flatten.length ≤ l.flatten.length := by
  have : l.flatten = (l.take i).flatten ++ (l.drop i).flatten := by rw [← List.flatten_append, List.take_append_drop]
  rw [this, List.length_append]; omega
theorem grow_own : SoundF Try.prog 79 fun args st K => ∃ n : Nat, args = [.v (.slice none 0 0), .v (.int .i64 (n : Nat))] ∧ n ≤ 140737488355328 ∧ ∀ o c f st', Sep st st' [(o, f)] → GRow o f 1 0 c [] → K (orow o 0 c) st' := by
  refine sound_ofA Try.func79 rfl Try.results79 ?_
  rintro w0 args st K ⟨n, rfl, h1, hK⟩
  rw [Try.ntmps79]; refine ⟨by simp, ?_⟩
  obtain ⟨i5, hi5, hk5⟩ := ii_of (t := 5) rfl
  have hS := (Sep.nil st).addNone []
  have hg : GRow none [] 1 0 0 [] := GRow.empty 1
  have g1 : decide ((n : Int) < 0) = false := decide_eq_false (by omega)
  (repeat (first | ((with_reducible apply zr_seq)) | ((with_reducible apply zr_region); (try simp only [List.append_eq, List.cons_append, List.nil_append])) | ((with_reducible apply zo_end)) | ((with_reducible apply zs_move); (exact rfl); (exact rfl)) | ((with_reducible apply zs_assign); (exact rfl); (exact rfl)) | ((with_reducible apply zs_lss); (exact rfl); (exact rfl); (exact rfl)) | ((with_reducible apply zr_cond_f); (exact rfl); (first | assumption | exact rfl)) | ((with_reducible apply zr_skip'))))
  (try ((with_reducible apply zs_yes); exact rfl; exact rfl; (first | assumption | exact rfl))); refine zo_pure0 rfl rfl (by decide) (zp_cap_nil rfl zq26 rfl) ?_
  (repeat (first | ((with_reducible apply zr_seq)) | ((with_reducible apply zr_region); (try simp only [List.append_eq, List.cons_append, List.nil_append])) | ((with_reducible apply zo_end)) | ((with_reducible apply zs_move); (exact rfl); (exact rfl)) | ((with_reducible apply zs_assign); (exact rfl); (exact rfl)) | ((with_reducible apply zs_gtr); (exact rfl); (exact rfl); (exact rfl)) | ((with_reducible apply zs_sub); (exact rfl); (exact rfl); (exact rfl); (first | (with_reducible assumption) | exact wrap_in64 (by omega) (by omega))) | ((with_reducible apply zs_len_nil); (exact rfl); (exact rfl); (exact un_sl rfl))))
  rw [show (n : Int) - ((0 : Nat) - (0 : Nat) : Int) = (n : Nat) by omega]
  skip
  (first | refine zr_cond rfl (fun h2 => ?_) (fun h2 => ?_) | refine zs_split rfl rfl (fun h2 => ?_) (fun h2 => ?_)) <;> have h2' := h2 <;> (try simp only [decide_eq_true_eq, decide_eq_false_iff_not, Bool.and_eq_true, Bool.or_eq_true, Bool.and_eq_false_iff, Bool.or_eq_false_iff, Bool.not_eq_true', Bool.not_eq_false', Bool.not_eq_true, Bool.not_eq_false, Int.not_le, Int.not_lt, Classical.not_not, Decidable.not_not, ne_eq, beq_iff_eq, bne_iff_ne] at h2')
  · (repeat (first | ((with_reducible apply zr_region); (try simp only [List.append_eq, List.cons_append, List.nil_append])) | ((with_reducible apply zs_move); (exact rfl); (exact rfl))))
    (try ((with_reducible apply zs_yes); exact rfl; exact rfl; (first | assumption | exact rfl))); refine zo_pure0 rfl rfl (by decide) (zp_cap_nil rfl zq26 rfl) ?_
    (try ((with_reducible apply zs_yes); exact rfl; exact rfl; (first | assumption | exact rfl))); refine zo_pure0 rfl rfl (by decide) (zp_cut_nil rfl zq26 hi5 rfl rfl ⟨_, rfl⟩) ?_
    (repeat (first | ((with_reducible apply zs_move); (exact rfl); (exact rfl))))
    (try ((with_reducible apply zs_yes); exact rfl; exact rfl; (first | assumption | exact rfl))); refine zo_val rfl rfl (by decide) (zv_sappZ (e := 5) (i := 0) (ob := none) (m := 0) (c := 0) rfl zq24 zq23 zq26 (by exact un_int rfl) rfl hS rfl hg rfl (by omega) fun o1 c1 full1 s1 hS1 hg1 => ?_)
    obtain ⟨id, rfl⟩ := hg1.isBlock (by omega)
    (repeat (first | ((with_reducible apply zr_seq)) | ((with_reducible apply zr_region); (try simp only [List.append_eq, List.cons_append, List.nil_append])) | ((with_reducible apply zo_end)) | ((with_reducible apply zs_move); (exact rfl); (exact rfl)) | ((with_reducible apply zs_assign); (exact rfl); (exact rfl)) | ((with_reducible apply zs_len_nil); (exact rfl); (exact rfl); (exact un_sl rfl)) | ((with_reducible apply zs_cutMhi); (exact rfl); (exact rfl); (exact un_sl rfl); (exact ii_of rfl); (exact rfl); (first | omega | (simp only [List.length_map, List.length_take, List.length_drop, List.length_append, List.length_cons, List.length_nil, List.length_replicate, rowR_length, intR_length, msgR_length, pairR_length]; omega) | decide); (first | omega | (simp only [List.length_map, List.length_take, List.length_drop, List.length_append, List.length_cons, List.length_nil, List.length_replicate, rowR_length, intR_length, msgR_length, pairR_length]; omega) | decide); (first | (with_reducible exact Int.toNat_natCast _) | (simp only [Int.reduceToNat]; exact rfl) | exact rfl)) | ((with_reducible apply zr_retZ); (exact rfl); (repeat (first | exact resD_nil _ _ _ | ((with_reducible apply resD_tmp); (exact rfl)) | ((with_reducible apply resD_cell_agg); (exact rfl); (exact sh_of rfl); (first | assumption | exact St.setH_self _ _ _ | exact Sep.at_ (i := 0) zq27 rfl | exact Sep.at_ (i := 1) zq27 rfl | exact Sep.at_ (i := 2) zq27 rfl | exact Sep.at_ (i := 3) zq27 rfl | exact Sep.at_ (i := 4) zq27 rfl | exact Sep.at_ (i := 5) zq27 rfl | exact Sep.at_ (i := 6) zq27 rfl); (exact rfl)) | ((with_reducible apply resD_cell); (exact rfl); (exact sh_of rfl); (first | assumption | exact St.setH_self _ _ _ | exact Sep.at_ (i := 0) zq27 rfl | exact Sep.at_ (i := 1) zq27 rfl | exact Sep.at_ (i := 2) zq27 rfl | exact Sep.at_ (i := 3) zq27 rfl | exact Sep.at_ (i := 4) zq27 rfl | exact Sep.at_ (i := 5) zq27 rfl | exact Sep.at_ (i := 6) zq27 rfl); (exact rfl)))); (simp only [resOf]))))
    skip
    exact KE.mk _ (Ext.refl _) (hK (some id) c1 full1 s1 hS1 ⟨hg1.len, Nat.zero_le _, fun e => (by cases e), by simp⟩)
  · (repeat (first | ((with_reducible apply zr_seq)) | ((with_reducible apply zr_region); (try simp only [List.append_eq, List.cons_append, List.nil_append])) | ((with_reducible apply zo_end)) | ((with_reducible apply zs_move); (exact rfl); (exact rfl)) | ((with_reducible apply zs_assign); (exact rfl); (exact rfl)) | ((with_reducible apply zr_skip')) | ((with_reducible apply zr_retZ); (exact rfl); (repeat (first | exact resD_nil _ _ _ | ((with_reducible apply resD_tmp); (exact rfl)) | ((with_reducible apply resD_cell_agg); (exact rfl); (exact sh_of rfl); (first | assumption | exact St.setH_self _ _ _ | exact Sep.at_ (i := 0) zq27 rfl | exact Sep.at_ (i := 1) zq27 rfl | exact Sep.at_ (i := 2) zq27 rfl | exact Sep.at_ (i := 3) zq27 rfl | exact Sep.at_ (i := 4) zq27 rfl | exact Sep.at_ (i := 5) zq27 rfl | exact Sep.at_ (i := 6) zq27 rfl); (exact rfl)) | ((with_reducible apply resD_cell); (exact rfl); (exact sh_of rfl); (first | assumption | exact St.setH_self _ _ _ | exact Sep.at_ (i := 0) zq27 rfl | exact Sep.at_ (i := 1) zq27 rfl | exact Sep.at_ (i := 2) zq27 rfl | exact Sep.at_ (i := 3) zq27 rfl | exact Sep.at_ (i := 4) zq27 rfl | exact Sep.at_ (i := 5) zq27 rfl | exact Sep.at_ (i := 6) zq27 rfl); (exact rfl)))); (simp only [resOf]))))
    exact KE.mk _ (Ext.refl _) (hK none 0 [] _ hS hg)
theorem concat_own : SoundF Try.prog 43 fun args st K => ∃ (ps : List Bs) (tk : Nat), args = [.row (rowR ps) 1 tk] ∧ ps.length ≤ 2147483648 ∧ ps.flatten.length ≤ 140737488355328 ∧ ∀ o c f st', Sep st st' [(o, f)] → GRow o f 1 ps.flatten.length c (bytesD ps.flatten).flatten → K (orow o ps.flatten.length c) st' := by
  refine sound_ofA Try.func43 rfl Try.results43 ?_
  rintro w0 args st K ⟨ps, tk, rfl, h1, h2, hK⟩
  rw [Try.ntmps43]; refine ⟨by simp, ?_⟩
  refine zr_as 0 (.row (rowR ps) 1 0) rfl zq6 ?_
  have hr0 : (rowR ps).length = ps.length := rowR_length ps
  have hS := Sep.nil st
  (repeat (first | ((with_reducible apply zr_seq)) | ((with_reducible apply zr_region); (try simp only [List.append_eq, List.cons_append, List.nil_append])) | ((with_reducible apply zo_end)) | ((with_reducible apply zs_move); (exact rfl); (exact rfl)) | ((with_reducible apply zs_assign); (exact rfl); (exact rfl)) | ((with_reducible apply zs_len); (exact rfl); (exact rfl); (exact un_sl rfl)) | ((with_reducible apply zr_block))))
  refine zr_loopK [0, 9, 10] (fun m e s => ∃ i : Nat, m + i = ps.length ∧ e = [(3, .v (.int .i64 ((ps.take i).flatten.length : Nat))), (11, .v (.int .i64 (i : Nat)))] ∧ Zm.Sep st s []) ps.length _ zq15 ⟨0, by omega, rfl, hS⟩ zq17 ?_
  rintro m e s ⟨i, hm, rfl, hS⟩
  (repeat (first | ((with_reducible apply zr_seq)) | ((with_reducible apply zr_region); (try simp only [List.append_eq, List.cons_append, List.nil_append])) | ((with_reducible apply zo_end)) | ((with_reducible apply zs_lss); (exact rfl); (exact rfl); (exact rfl))))
  (first | refine zr_cond rfl (fun h3 => ?_) (fun h3 => ?_) | refine zs_split rfl rfl (fun h3 => ?_) (fun h3 => ?_)) <;> have h3' := h3 <;> (try simp only [decide_eq_true_eq, decide_eq_false_iff_not, Bool.and_eq_true, Bool.or_eq_true, Bool.and_eq_false_iff, Bool.or_eq_false_iff, Bool.not_eq_true', Bool.not_eq_false', Bool.not_eq_true, Bool.not_eq_false, Int.not_le, Int.not_lt, Classical.not_not, Decidable.not_not, ne_eq, beq_iff_eq, bne_iff_ne] at h3')
  · obtain ⟨b, hb, hbt, _, hbg⟩ := eltK (l := ps) (i := i) (by omega)
    have hst := sumk_take hbt
    have hle := sumk_le ps (i + 1)
    have hsl : (ps.take (i + 1)).flatten.length = (ps.take i).flatten.length + b.length := by rw [hst, List.length_append]
    have g1 : decide ((((ps.take i).flatten.length : Nat) : Int) + (b.length : Nat) < 0) = false := decide_eq_false (by omega)
    (repeat (first | ((with_reducible apply zr_seq)) | ((with_reducible apply zr_region); (try simp only [List.append_eq, List.cons_append, List.nil_append])) | ((with_reducible apply zo_end)) | ((with_reducible apply zs_move); (exact rfl); (exact rfl)) | ((with_reducible apply zs_assign); (exact rfl); (exact rfl)) | ((with_reducible apply zs_lss); (exact rfl); (exact rfl); (exact rfl)) | ((with_reducible apply zs_add); (exact rfl); (exact rfl); (exact rfl); (first | (with_reducible assumption) | exact wrap_in64 (by omega) (by omega))) | ((with_reducible apply zs_lenB); (exact rfl); (exact rfl); (exact un_sl rfl)) | ((with_reducible apply zr_cond_f); (exact rfl); (first | assumption | exact rfl)) | ((with_reducible apply zr_block)) | ((with_reducible apply zr_skip')) | ((with_reducible apply zr_skipB)) | ((with_reducible apply zs_load_ref); (exact rfl); (exact rfl); (exact sh_of rfl); (exact rfl)) | ((with_reducible apply zs_idxE); (exact rfl); (exact rfl); (exact rfl); (exact un_sl rfl); (exact ii_of rfl); (first | omega | (simp only [List.length_map, List.length_take, List.length_drop, List.length_append, List.length_cons, List.length_nil, List.length_replicate, rowR_length, intR_length, msgR_length, pairR_length]; omega) | decide); (first | omega | (simp only [List.length_map, List.length_take, List.length_drop, List.length_append, List.length_cons, List.length_nil, List.length_replicate, rowR_length, intR_length, msgR_length, pairR_length]; omega) | decide); (first | (with_reducible exact Int.toNat_natCast _) | (simp only [Int.reduceToNat]; exact rfl) | exact rfl); (assumption))))
    exact ⟨m - 1, _, by omega, ⟨i + 1, by omega, rfl, hS⟩, by rw [hsl]; exact zq17, zq17⟩
  · have hi : i = ps.length := by omega
    subst hi
    rw [List.take_length]
    (repeat (first | ((with_reducible apply zr_seq)) | ((with_reducible apply zr_region); (try simp only [List.append_eq, List.cons_append, List.nil_append])) | ((with_reducible apply zs_move); (exact rfl); (exact rfl)) | (with_reducible refine zr_exit ?_; simp only [Zthen, Zblock, ↓reduceIte])))
    (try ((with_reducible apply zs_yes); exact rfl; exact rfl; (first | assumption | exact rfl))); refine zo_callU grow_own Try.func79 zq28 rfl rfl rfl rfl (by decide) rfl rfl (Ups.refl _) ?_
    refine ⟨_, rfl, by omega, fun o c f st' hS2 hg => ?_⟩
    have hS : Zm.Sep st st' [(o, f)] := hS.trans hS2
    (repeat (first | ((with_reducible apply zr_seq)) | ((with_reducible apply zr_region); (try simp only [List.append_eq, List.cons_append, List.nil_append])) | ((with_reducible apply zo_end)) | ((with_reducible apply zs_move); (exact rfl); (exact rfl)) | ((with_reducible apply zs_assign); (exact rfl); (exact rfl)) | ((with_reducible apply zs_len); (exact rfl); (exact rfl); (exact un_sl rfl)) | ((with_reducible apply zr_block))))
    refine zr_loopK [25, 26] (fun m e s => ∃ i o c f, m + i = ps.length ∧ e = [(6, orow o (ps.take i).flatten.length c), (27, .v (.int .i64 (i : Nat)))] ∧ Zm.Sep st s [(o, f)] ∧ GRow o f 1 (ps.take i).flatten.length c (bytesD (ps.take i).flatten).flatten) ps.length _ zq15 ⟨0, o, c, f, by omega, rfl, hS, hg⟩ zq17 ?_
    rintro m e s ⟨i, o, c, f, hm, rfl, hS, hg⟩
    (repeat (first | ((with_reducible apply zr_seq)) | ((with_reducible apply zr_region); (try simp only [List.append_eq, List.cons_append, List.nil_append])) | ((with_reducible apply zo_end)) | ((with_reducible apply zs_lss); (exact rfl); (exact rfl); (exact rfl))))
    (first | refine zr_cond rfl (fun h4 => ?_) (fun h4 => ?_) | refine zs_split rfl rfl (fun h4 => ?_) (fun h4 => ?_)) <;> have h4' := h4 <;> (try simp only [decide_eq_true_eq, decide_eq_false_iff_not, Bool.and_eq_true, Bool.or_eq_true, Bool.and_eq_false_iff, Bool.or_eq_false_iff, Bool.not_eq_true', Bool.not_eq_false', Bool.not_eq_true, Bool.not_eq_false, Int.not_le, Int.not_lt, Classical.not_not, Decidable.not_not, ne_eq, beq_iff_eq, bne_iff_ne] at h4')
    · obtain ⟨b, hb, hbt, _, hbg⟩ := eltK (l := ps) (i := i) (by omega)
      have hst := sumk_take hbt
      have hle := sumk_le ps (i + 1)
      have hsl : (ps.take (i + 1)).flatten.length = (ps.take i).flatten.length + (bytesD b).length := by rw [hst, List.length_append, bytesD_length]
      have hbl : (bytesD b).length = b.length := bytesD_length b
      (repeat (first | ((with_reducible apply zr_seq)) | ((with_reducible apply zr_region); (try simp only [List.append_eq, List.cons_append, List.nil_append])) | ((with_reducible apply zo_end)) | ((with_reducible apply zo_endB)) | ((with_reducible apply zs_move); (exact rfl); (exact rfl)) | ((with_reducible apply zs_assign); (exact rfl); (exact rfl)) | ((with_reducible apply zs_add); (exact rfl); (exact rfl); (exact rfl); (first | (with_reducible assumption) | exact wrap_in64 (by omega) (by omega))) | ((with_reducible apply zr_block)) | ((with_reducible apply zr_skip')) | ((with_reducible apply zs_load_ref); (exact rfl); (exact rfl); (exact sh_of rfl); (exact rfl)) | ((with_reducible apply zs_idxE); (exact rfl); (exact rfl); (exact rfl); (exact un_sl rfl); (exact ii_of rfl); (first | omega | (simp only [List.length_map, List.length_take, List.length_drop, List.length_append, List.length_cons, List.length_nil, List.length_replicate, rowR_length, intR_length, msgR_length, pairR_length]; omega) | decide); (first | omega | (simp only [List.length_map, List.length_take, List.length_drop, List.length_append, List.length_cons, List.length_nil, List.length_replicate, rowR_length, intR_length, msgR_length, pairR_length]; omega) | decide); (first | (with_reducible exact Int.toNat_natCast _) | (simp only [Int.reduceToNat]; exact rfl) | exact rfl); (assumption)) | ((with_reducible apply (zs_sapp (i := 0))); (exact rfl); (exact rfl); (exact rfl); (exact un_sl rfl); (exact el_of rfl); (simp [oneD, Value.oneCell']); (assumption); (exact rfl); (assumption); ((try simp only [List.length_map, List.length_cons, List.length_nil, List.length_take, List.length_drop, List.length_append, rowR_length, intR_length, msgR_length, pairR_length]); omega); (intro o1 c1 f1 sS hS hg); (try simp only [List.set_cons_zero, List.set_cons_succ] at hS))))
      rw [← List.flatten_append, ← bytesD_append, ← hst, ← hsl] at hg
      rw [← hsl]
      exact ⟨m - 1, _, by omega, ⟨i + 1, _, _, _, by omega, rfl, hS, hg⟩, zq17, zq17⟩
    · have hi : i = ps.length := by omega
      subst hi
      rw [List.take_length] at hg ⊢
      (repeat (first | ((with_reducible apply zr_seq)) | ((with_reducible apply zr_region); (try simp only [List.append_eq, List.cons_append, List.nil_append])) | ((with_reducible apply zo_end)) | ((with_reducible apply zs_move); (exact rfl); (exact rfl)) | ((with_reducible apply zs_assign); (exact rfl); (exact rfl)) | (with_reducible refine zr_exit ?_; simp only [Zthen, Zblock, ↓reduceIte]) | ((with_reducible apply zr_retZ); (exact rfl); (repeat (first | exact resD_nil _ _ _ | ((with_reducible apply resD_tmp); (exact rfl)) | ((with_reducible apply resD_cell_agg); (exact rfl); (exact sh_of rfl); (first | assumption | exact St.setH_self _ _ _ | exact Sep.at_ (i := 0) zq27 rfl | exact Sep.at_ (i := 1) zq27 rfl | exact Sep.at_ (i := 2) zq27 rfl | exact Sep.at_ (i := 3) zq27 rfl | exact Sep.at_ (i := 4) zq27 rfl | exact Sep.at_ (i := 5) zq27 rfl | exact Sep.at_ (i := 6) zq27 rfl); (exact rfl)) | ((with_reducible apply resD_cell); (exact rfl); (exact sh_of rfl); (first | assumption | exact St.setH_self _ _ _ | exact Sep.at_ (i := 0) zq27 rfl | exact Sep.at_ (i := 1) zq27 rfl | exact Sep.at_ (i := 2) zq27 rfl | exact Sep.at_ (i := 3) zq27 rfl | exact Sep.at_ (i := 4) zq27 rfl | exact Sep.at_ (i := 5) zq27 rfl | exact Sep.at_ (i := 6) zq27 rfl); (exact rfl)))); (simp only [resOf]))))
      exact KE.mk _ (Ext.refl _) (hK _ _ _ _ hS hg)
end Go.Proofs.ZtLe
namespace Go.Proofs.ZtLe
open Go.RowKit Go.Proofs Go.Proofs.Zm
set_option linter.unusedVariables false
set_option linter.unusedSimpArgs false
set_option maxHeartbeats 20000000
set_option maxRecDepth 100000
attribute [local irreducible] ZWp ZOps ZPure ZPure0 ZVal ZOp SoundF

/-! ### how long a node is -/
def leafLong (c : CfgV) : Int := c.l * (c.keyMax + 2 + c.valMax + 2)
def innerLong (c : CfgV) : Int := c.f * 4 + max (c.f - 1) 0 * (c.keyMax + 2) + c.m * mlong c
def longL (c : CfgV) : Int := if okC c = true then 5 + max (leafLong c) (innerLong c) else 0
theorem mul_bd {a b x y : Int} (ha : 0 ≤ a ∧ a ≤ x) (hb : 0 ≤ b ∧ b ≤ y) : 0 ≤ a * b ∧ a * b ≤ x * y := ⟨Int.mul_nonneg ha.1 hb.1, Int.mul_le_mul ha.2 hb.2 hb.1 (by omega)⟩
theorem long_bd {c : CfgV} (h : okC c = true) : (0 ≤ leafLong c ∧ leafLong c ≤ 2004000) ∧ (0 ≤ innerLong c ∧ innerLong c ≤ 3100000) := by
  obtain ⟨h1, h2, h3, h4, h5⟩ := okC_t h
  have a1 := mul_bd h5 (show 0 ≤ c.keyMax + 2 + c.valMax + 2 ∧ c.keyMax + 2 + c.valMax + 2 ≤ 2004 by omega)
  have a2 := mul_bd (show 0 ≤ max (c.f - 1) 0 ∧ max (c.f - 1) 0 ≤ 1000 by omega) (show 0 ≤ c.keyMax + 2 ∧ c.keyMax + 2 ≤ 1002 by omega)
  have a3 := mul_bd h4 (show 0 ≤ mlong c ∧ mlong c ≤ 2005 by unfold mlong; omega)
  unfold leafLong innerLong
  omega
theorem longL_t {c : CfgV} (h : okC c = true) : longL c = 5 + max (leafLong c) (innerLong c) := by unfold longL; exact if_pos h
theorem longL_bd (c : CfgV) : 0 ≤ longL c ∧ longL c ≤ 3200000 := by
  unfold longL
  split
  · rename_i h; have := long_bd h; omega
  · omega
theorem nlong_pf {c : CfgV} (h : True) : PureF Try.prog 13 [.agg (cfgD c)] (.v (.int .i64 (longL c))) := by
  refine pure_of Try.func13 rfl Try.results13 (by rw [Try.ntmps13]; simp) (fun w0 st K hK => ?_); rw [Try.ntmps13]
  have hS := Sep.nil st
  cases h0 : okC c
  · have h0' : (!okC c) = true := by rw [h0]; rfl
    rw [show longL c = 0 by unfold longL; rw [if_neg (by rw [h0]; simp)]] at hK
    (repeat (first | ((with_reducible apply zr_seq)) | ((with_reducible apply zr_region); (try simp only [List.append_eq, List.cons_append, List.nil_append])) | ((with_reducible apply zo_end)) | ((with_reducible apply zs_assign); (exact rfl); (exact rfl)) | ((with_reducible apply zs_not); (exact rfl); (exact rfl)) | ((with_reducible apply zr_cond_t); (exact rfl); (first | assumption | exact rfl)) | ((with_reducible apply zs_load_refAll); (exact rfl); (exact rfl); (exact sh_of rfl); (exact rfl)) | ((with_reducible apply (zs_boxRef (t := 1))); (exact rfl); (exact rfl)) | ((with_reducible apply (zs_callQ nok_pf cl_46)); (exact rfl); (exact rfl); ((repeat (first | exact DLes.nil | (apply DLes.cons; first | exact DLe.refl _ | exact DLe.nilB | exact DLe.nilR | exact DLe.nilI | exact dle_mnone)))); (first | exact trivial | assumption | ((repeat' (with_reducible refine And.intro ?_ ?_)) <;> first | assumption | omega | exact trivial | (simp; done) | (simp; omega)))) | ((with_reducible apply zr_retZ); (exact rfl); (repeat (first | exact resD_nil _ _ _ | ((with_reducible apply resD_tmp); (exact rfl)) | ((with_reducible apply resD_cell_agg); (exact rfl); (exact sh_of rfl); (first | assumption | exact St.setH_self _ _ _ | exact Sep.at_ (i := 0) zq27 rfl | exact Sep.at_ (i := 1) zq27 rfl | exact Sep.at_ (i := 2) zq27 rfl | exact Sep.at_ (i := 3) zq27 rfl | exact Sep.at_ (i := 4) zq27 rfl | exact Sep.at_ (i := 5) zq27 rfl | exact Sep.at_ (i := 6) zq27 rfl); (exact rfl)) | ((with_reducible apply resD_cell); (exact rfl); (exact sh_of rfl); (first | assumption | exact St.setH_self _ _ _ | exact Sep.at_ (i := 0) zq27 rfl | exact Sep.at_ (i := 1) zq27 rfl | exact Sep.at_ (i := 2) zq27 rfl | exact Sep.at_ (i := 3) zq27 rfl | exact Sep.at_ (i := 4) zq27 rfl | exact Sep.at_ (i := 5) zq27 rfl | exact Sep.at_ (i := 6) zq27 rfl); (exact rfl)))); (simp only [resOf]))))
    exact KE.mk _ hS.ext hK
  · have h0' : (!okC c) = false := by rw [h0]; rfl
    obtain ⟨h1, h2, h3, h4, h5⟩ := okC_t h0
    have a1 := mul_bd h5 (show 0 ≤ c.keyMax + 2 + c.valMax + 2 ∧ c.keyMax + 2 + c.valMax + 2 ≤ 2004 by omega)
    have a2 := mul_bd (show 0 ≤ max (c.f - 1) 0 ∧ max (c.f - 1) 0 ≤ 1000 by omega) (show 0 ≤ c.keyMax + 2 ∧ c.keyMax + 2 ≤ 1002 by omega)
    have a3 := mul_bd h4 (show 0 ≤ mlong c ∧ mlong c ≤ 2005 by unfold mlong; omega)
    rw [longL_t h0] at hK
    unfold leafLong innerLong at hK
    (repeat (first | ((with_reducible apply zr_seq)) | ((with_reducible apply zr_region); (try simp only [List.append_eq, List.cons_append, List.nil_append])) | ((with_reducible apply zo_end)) | ((with_reducible apply zs_assign); (exact rfl); (exact rfl)) | ((with_reducible apply zs_not); (exact rfl); (exact rfl)) | ((with_reducible apply zs_add); (exact rfl); (exact rfl); (exact rfl); (first | (with_reducible assumption) | exact wrap_in64 (by omega) (by omega))) | ((with_reducible apply zr_cond_f); (exact rfl); (first | assumption | exact rfl)) | ((with_reducible apply zr_skip')) | ((with_reducible apply zs_field_ref); (exact rfl); (exact rfl); (exact fld_of rfl)) | ((with_reducible apply zs_load_ref); (exact rfl); (exact rfl); (exact sh_of rfl); (exact rfl)) | ((with_reducible apply zs_load_refAll); (exact rfl); (exact rfl); (exact sh_of rfl); (exact rfl)) | ((with_reducible apply zs_mul); (exact rfl); (exact rfl); (exact rfl); (first | (with_reducible assumption) | exact wrap_in64 (by omega) (by omega))) | ((with_reducible apply (zs_boxRef (t := 1))); (exact rfl); (exact rfl)) | ((with_reducible apply (zs_callQ nok_pf cl_46)); (exact rfl); (exact rfl); ((repeat (first | exact DLes.nil | (apply DLes.cons; first | exact DLe.refl _ | exact DLe.nilB | exact DLe.nilR | exact DLe.nilI | exact dle_mnone)))); (first | exact trivial | assumption | ((repeat' (with_reducible refine And.intro ?_ ?_)) <;> first | assumption | omega | exact trivial | (simp; done) | (simp; omega))))))
    refine zr_flatK _ zq28 (sub_cons (k := 1) rfl (sub_cons (k := 3) rfl (sub_nil _))) ?_
    refine zf_cons rfl rfl rfl zq20 (fun st K hK => ZPure.opK rfl (by decide) zq14 hK) ?_
    refine zf_cons rfl rfl rfl zq20 (fun st K hK => ZPure.opK rfl (by decide) (zp_load_ref rfl zq25 rfl rfl) hK) ?_
    refine zf_cons rfl rfl rfl zq20 (fun st K hK => ZPure.opK rfl (by decide) (ZPure0.pure (zp_mul rfl rfl rfl zq21)) hK) ?_
    refine zf_cons rfl rfl rfl zq20 (fun st K hK => ZPure.opK rfl (by decide) zq14 hK) ?_
    refine zf_cons rfl rfl rfl zq20 (fun st K hK => ZPure.opK rfl (by decide) (zp_load_ref rfl zq25 rfl rfl) hK) ?_
    refine zf_cons rfl rfl rfl zq20 (fun st K hK => ZPure.opK rfl (by decide) (ZPure0.pure (zp_sub rfl rfl rfl zq21)) hK) ?_
    refine zf_cons rfl rfl rfl zq20 (fun st K hK => ZPure.opK rfl (by decide) (ZPure0.pure (zp_max rfl rfl rfl (by first | (with_reducible assumption) | exact rfl))) hK) ?_
    refine zf_cons rfl rfl rfl zq20 (fun st K hK => ZPure.opK rfl (by decide) zq14 hK) ?_
    refine zf_cons rfl rfl rfl zq20 (fun st K hK => ZPure.opK rfl (by decide) (zp_load_ref rfl zq25 rfl rfl) hK) ?_
    refine zf_cons rfl rfl rfl zq20 (fun st K hK => ZPure.opK rfl (by decide) (ZPure0.pure (zp_add rfl rfl rfl zq21)) hK) ?_
    refine zf_cons rfl rfl rfl zq20 (fun st K hK => ZPure.opK rfl (by decide) (ZPure0.pure (zp_mul rfl rfl rfl zq21)) hK) ?_
    refine zf_cons rfl rfl rfl zq20 (fun st K hK => ZPure.opK rfl (by decide) (ZPure0.pure (zp_add rfl rfl rfl zq21)) hK) ?_
    refine zf_cons rfl rfl rfl zq20 (fun st K hK => ZPure.opK rfl (by decide) zq14 hK) ?_
    refine zf_cons rfl rfl rfl zq20 (fun st K hK => ZPure.opK rfl (by decide) (zp_load_ref rfl zq25 rfl rfl) hK) ?_
    refine zf_cons rfl rfl rfl zq20 (fun st K hK => ZPure.opK rfl (by decide) (zp_load_refAll rfl zq25 rfl rfl) hK) ?_
    refine zf_cons rfl rfl rfl zq20 (fun st K hK => zop_callQ mlong_pf cl_47 rfl rfl (by decide) rfl rfl zq13 zq11 hK) ?_
    refine zf_cons rfl rfl rfl zq20 (fun st K hK => ZPure.opK rfl (by decide) (ZPure0.pure (zp_mul rfl rfl rfl zq21)) hK) ?_
    refine zf_cons rfl rfl rfl zq20 (fun st K hK => ZPure.opK rfl (by decide) (ZPure0.pure (zp_add rfl rfl rfl zq21)) hK) ?_
    refine zf_cons rfl rfl rfl zq20 (fun st K hK => ZPure.opK rfl (by decide) (ZPure0.pure (zp_assign rfl rfl)) hK) ?_
    refine zf_nil ⟨by kernel_rfl, by kernel_rfl, ?_⟩
    refine zr_subE (sub_cons (k := 3) rfl (sub_cons (k := 4) rfl (sub_nil _))) ?_
    (repeat (first | ((with_reducible apply zr_seq)) | ((with_reducible apply zr_region); (try simp only [List.append_eq, List.cons_append, List.nil_append])) | ((with_reducible apply zo_end)) | ((with_reducible apply zs_move); (exact rfl); (exact rfl)) | ((with_reducible apply zs_assign); (exact rfl); (exact rfl)) | ((with_reducible apply zs_add); (exact rfl); (exact rfl); (exact rfl); (first | (with_reducible assumption) | exact wrap_in64 (by omega) (by omega))) | ((with_reducible apply zs_max); (exact rfl); (exact rfl); (exact rfl); (first | (with_reducible assumption) | exact rfl)) | ((with_reducible apply zr_retZ); (exact rfl); (repeat (first | exact resD_nil _ _ _ | ((with_reducible apply resD_tmp); (exact rfl)) | ((with_reducible apply resD_cell_agg); (exact rfl); (exact sh_of rfl); (first | assumption | exact St.setH_self _ _ _ | exact Sep.at_ (i := 0) zq27 rfl | exact Sep.at_ (i := 1) zq27 rfl | exact Sep.at_ (i := 2) zq27 rfl | exact Sep.at_ (i := 3) zq27 rfl | exact Sep.at_ (i := 4) zq27 rfl | exact Sep.at_ (i := 5) zq27 rfl | exact Sep.at_ (i := 6) zq27 rfl); (exact rfl)) | ((with_reducible apply resD_cell); (exact rfl); (exact sh_of rfl); (first | assumption | exact St.setH_self _ _ _ | exact Sep.at_ (i := 0) zq27 rfl | exact Sep.at_ (i := 1) zq27 rfl | exact Sep.at_ (i := 2) zq27 rfl | exact Sep.at_ (i := 3) zq27 rfl | exact Sep.at_ (i := 4) zq27 rfl | exact Sep.at_ (i := 5) zq27 rfl | exact Sep.at_ (i := 6) zq27 rfl); (exact rfl)))); (simp only [resOf]))))
    exact KE.mk _ hS.ext hK
end Go.Proofs.ZtLe
namespace Go.Proofs.ZtLe
open Go.RowKit Go.Proofs Go.Proofs.Zm
set_option linter.unusedVariables false
set_option linter.unusedSimpArgs false
set_option maxHeartbeats 20000000
set_option maxRecDepth 100000
attribute [local irreducible] ZWp ZOps ZPure ZPure0 ZVal ZOp SoundF

/-! ### numbers and texts in bytes -/
theorem nbyte (n : Int) : ((UInt8.ofNat (n % 256).toNat).toNat : Int) = n % 256 := by simp; omega
theorem nnum_append (l m : Bs) : num (l ++ m) = num l + 256 ^ l.length * num m := by
  induction l with
  | nil => simp [num]
  | cons b l ih => simp only [List.cons_append, num, ih, List.length_cons, Int.pow_succ, Int.mul_add, Int.add_assoc, Int.mul_comm (256 ^ l.length) 256, Int.mul_assoc]
theorem nnum_put (n : Int) (k : Nat) (h : 0 ≤ n) : num (put n k) = n % 256 ^ k := by
  induction k with
  | zero => simp [put, num]
  | succ k ih =>
    unfold put
    rw [nnum_append, ih, put_length]
    simp only [num, nbyte, Int.mul_zero, Int.add_zero]
    have hp : (256 : Int) ^ k ≠ 0 := by have : (0 : Int) < 256 ^ k := Int.pow_pos (by decide); omega
    rw [Int.pow_succ]
    have h1 := Int.emod_emod_of_dvd n (show (256 : Int) ^ k ∣ 256 ^ k * 256 from ⟨256, rfl⟩)
    have h2 : n % (256 ^ k * 256) / 256 ^ k = n / 256 ^ k % 256 := by
      rw [Int.emod_def n (256 ^ k * 256), Int.emod_def (n / 256 ^ k) 256, Int.ediv_ediv_of_nonneg (Int.le_of_lt (Int.pow_pos (by decide))), Int.mul_assoc, Int.sub_eq_add_neg, ← Int.mul_neg, Int.add_mul_ediv_left _ _ hp]
      omega
    have h3 := Int.mul_ediv_add_emod (n % (256 ^ k * 256)) (256 ^ k)
    rw [h1, h2] at h3
    omega
theorem nput_len (n k : Int) (h0 : 0 ≤ k) (h1 : k ≤ 8) : (putB n k).length = k.toNat := by unfold putB; rw [if_pos ⟨h0, h1⟩, put_length]
theorem nput2_len (n : Int) : (putB n 2).length = 2 := nput_len n 2 (by omega) (by omega)
theorem nput4_len (n : Int) : (putB n 4).length = 4 := nput_len n 4 (by omega) (by omega)
theorem nget_put {n k : Int} (h0 : 0 ≤ n) (hk : 0 ≤ k ∧ k ≤ 8) (h1 : n < 256 ^ k.toNat) : get (putB n k) = n := by
  unfold get
  rw [List.take_of_length_le (by rw [nput_len n k hk.1 hk.2]; omega)]
  unfold putB
  rw [if_pos hk, nnum_put _ _ h0]
  exact Int.emod_eq_of_lt h0 h1
theorem nget_put2 {n : Int} (h0 : 0 ≤ n) (h1 : n < 65536) : get (putB n 2) = n := nget_put h0 (by omega) h1
theorem nget_put4 {n : Int} (h0 : 0 ≤ n) (h1 : n < 4294967296) : get (putB n 4) = n := nget_put h0 (by omega) h1
theorem zero_rep (k : Nat) : zero (List.replicate k 0) = true := zero_of _ fun j hj => by
  rw [List.length_replicate] at hj
  rw [List.getD_eq_getElem?_getD, List.getElem?_replicate, if_pos hj]; rfl
def padB (l : Bs) (most : Int) : Bs := (padL l most).getD []
theorem padB_eq {l : Bs} {most : Int} (h : (0 ≤ most ∧ most ≤ 1000) ∧ (l.length : Int) ≤ most) : padB l most = putB l.length 2 ++ l ++ List.replicate (most.toNat - l.length) 0 := by
  unfold padB; rw [padL_some h]; rfl
theorem padB_len {l : Bs} {most : Int} (h : (0 ≤ most ∧ most ≤ 1000) ∧ (l.length : Int) ≤ most) : ((padB l most).length : Int) = most + 2 := by
  rw [padB_eq h, List.length_append, List.length_append, nput2_len, List.length_replicate]; omega
theorem unpad_padB {l : Bs} {most : Int} (h : (0 ≤ most ∧ most ≤ 1000) ∧ (l.length : Int) ≤ most) : unpadL (padB l most) most = some l := by
  have hl := padB_len h
  have h2 : (padB l most).take 2 = putB (l.length : Nat) 2 := by
    rw [padB_eq h, List.append_assoc, List.take_append_of_le_length (by rw [nput2_len]; omega), List.take_of_length_le (by rw [nput2_len]; omega)]
  have hd : (padB l most).drop (2 + l.length) = List.replicate (most.toNat - l.length) 0 := by
    rw [padB_eq h, List.drop_append_of_le_length (by simp [nput2_len]), List.drop_eq_nil_of_le (by simp [nput2_len]), List.nil_append]
  have ht : ((padB l most).take (2 + l.length)).drop 2 = l := by
    rw [padB_eq h, List.take_append_of_le_length (by simp [nput2_len]), List.take_of_length_le (by simp [nput2_len]), List.drop_append_of_le_length (by rw [nput2_len]; omega), List.drop_eq_nil_of_le (by rw [nput2_len]; omega), List.nil_append]
  unfold unpadL
  rw [if_pos (by omega), h2, nget_put2 (by omega) (by omega), Int.toNat_natCast, hd, ht, if_pos ⟨by omega, zero_rep _⟩]

/-! ### a node's bytes -/
def kvB (c : CfgV) (n : NodeV) (i : Nat) : Bs := padB (n.keys.getD i []) c.keyMax ++ (bif n.leaf then padB (n.vals.getD i []) c.valMax else [])
def keysB (c : CfgV) (n : NodeV) (k : Nat) : Bs := (List.range k).flatMap (kvB c n)
def kidsB (ids : List Int) : Bs := ids.flatMap fun id => putB id 4
def msB (c : CfgV) (ms : List MsgV) : Bs := ms.flatMap fun m => (msgB c m).getD []
def cntN (n : NodeV) : Nat := bif n.leaf then n.keys.length else n.kids.length
def headB (n : NodeV) : Bs := [bif n.leaf then 1 else 2] ++ putB (cntN n) 2 ++ putB n.msgs.length 2
def bodyB (c : CfgV) (n : NodeV) : Bs := headB n ++ keysB c n n.keys.length ++ kidsB n.kids ++ msB c n.msgs
def codeB (c : CfgV) (n : NodeV) : Bs := bodyB c n ++ List.replicate ((longL c).toNat - (bodyB c n).length) 0
def codeN (c : CfgV) (n : NodeV) : Option Bs := if (okC c && goodN c n) = true then some (codeB c n) else none
theorem keysB_succ (c : CfgV) (n : NodeV) (k : Nat) : keysB c n (k + 1) = keysB c n k ++ kvB c n k := by
  unfold keysB; rw [List.range_succ, List.flatMap_append]; simp
theorem headB_len (n : NodeV) : (headB n).length = 5 := by unfold headB; rw [List.length_append, List.length_append, nput2_len, nput2_len]; rfl
theorem kidsB_len (l : List Int) : (kidsB l).length = 4 * l.length := by
  unfold kidsB
  induction l with
  | nil => rfl
  | cons a l ih => rw [List.flatMap_cons, List.length_append, nput4_len, ih, List.length_cons]; omega
theorem kidsB_snoc {l : List Int} {i : Nat} {a : Int} (h : l.take (i + 1) = l.take i ++ [a]) : kidsB (l.take (i + 1)) = kidsB (l.take i) ++ putB a 4 := by
  unfold kidsB; rw [h, List.flatMap_append]; simp
theorem msB_snoc {c : CfgV} {l : List MsgV} {i : Nat} {a : MsgV} (h : l.take (i + 1) = l.take i ++ [a]) : msB c (l.take (i + 1)) = msB c (l.take i) ++ (msgB c a).getD [] := by
  unfold msB; rw [h, List.flatMap_append]; simp
theorem msgB_len {c : CfgV} {m : MsgV} (h : okC c = true ∧ mayL c m = true) : (((msgB c m).getD []).length : Int) = mlong c := by
  obtain ⟨h1, h2, _⟩ := okC_t h.1
  have hl := may_len h.2
  rw [msgB_t h]
  show (([kb m] ++ padB m.2.1 c.keyMax ++ padB m.2.2 c.valMax).length : Int) = _
  have p1 := padB_len ⟨h1, hl.1⟩
  have p2 := padB_len ⟨h2, hl.2⟩
  rw [List.length_append, List.length_append]
  unfold mlong
  simp only [List.length_singleton]
  omega
/-- What is told of a node that is one. -/
structure LeafF (c : CfgV) (n : NodeV) : Prop where
  klen : (n.keys.length : Int) ≤ c.l
  vlen : n.vals.length = n.keys.length
  kids : n.kids = []
  msgs : n.msgs = []
  val : ∀ v ∈ n.vals, (v.length : Int) ≤ c.valMax
structure InnerF (c : CfgV) (n : NodeV) : Prop where
  k1 : 1 ≤ n.kids.length
  kf : (n.kids.length : Int) ≤ c.f
  klen : n.keys.length + 1 = n.kids.length
  vals : n.vals = []
  mlen : (n.msgs.length : Int) ≤ c.m
  kid : ∀ k ∈ n.kids, 1 ≤ k ∧ k ≤ 2147483647
  msg : ∀ m ∈ n.msgs, m.1 ≠ 0 ∧ mayL c m = true
structure GoodF (c : CfgV) (n : NodeV) : Prop where
  ok : okC c = true
  key : ∀ k ∈ n.keys, (k.length : Int) ≤ c.keyMax
  lf : n.leaf = true → LeafF c n
  inn : n.leaf = false → InnerF c n
theorem rising_key {c : CfgV} {keys : List Bs} (h : risingB c keys = true) : ∀ k ∈ keys, (k.length : Int) ≤ c.keyMax := fun k hk => by
  obtain ⟨i, hi, rfl⟩ := List.getElem_of_mem hk
  unfold risingB at h
  have := List.all_eq_true.1 h i (List.mem_range.2 hi)
  unfold badKey at this
  rw [getD_k (List.getElem?_eq_getElem hi)] at this
  simp only [Bool.not_eq_true', Bool.or_eq_false_iff, decide_eq_false_iff_not] at this
  omega
theorem good_f {c : CfgV} {n : NodeV} (h : (okC c && goodN c n) = true) : GoodF c n := by
  unfold goodN at h
  simp only [Bool.and_eq_true] at h
  obtain ⟨h0, h1, h2⟩ := h
  refine ⟨h0, rising_key h1, fun hl => ?_, fun hl => ?_⟩
  · rw [hl] at h2
    unfold leafG at h2
    simp only [Bool.cond_true, Bool.and_eq_true, decide_eq_true_eq, Bool.not_eq_true', List.any_eq_false] at h2
    obtain ⟨⟨⟨a1, a2⟩, a3⟩, a4⟩ := h2
    refine ⟨a1, by omega, List.length_eq_zero_iff.1 (by omega), List.length_eq_zero_iff.1 (by omega), fun v hv => ?_⟩
    have := a4 v hv
    unfold longV at this
    simp only [decide_eq_true_eq] at this
    omega
  · rw [hl] at h2
    unfold innerG at h2
    simp only [Bool.cond_false, Bool.and_eq_true, decide_eq_true_eq, Bool.not_eq_true', List.any_eq_false] at h2
    obtain ⟨⟨⟨⟨⟨⟨a1, a2⟩, a3⟩, a4⟩, a5⟩, a6⟩, a7⟩ := h2
    refine ⟨by omega, a2, by omega, List.length_eq_zero_iff.1 (by omega), a5, fun k hk => ?_, fun m hm => ?_⟩
    · have := a6 k hk
      unfold badKid at this
      simp only [Bool.or_eq_true, decide_eq_true_eq] at this
      omega
    · have := a7 m hm
      unfold badMsg at this
      simp only [Bool.or_eq_true, decide_eq_true_eq, Bool.not_eq_true', not_or] at this
      exact ⟨this.1, by simpa using this.2⟩
theorem mem_getD {l : List Bs} {i : Nat} (h : i < l.length) : l.getD i [] ∈ l := by rw [getD_k (List.getElem?_eq_getElem h)]; exact List.getElem_mem h
theorem kvB_len {c : CfgV} {n : NodeV} (h : GoodF c n) {i : Nat} (hi : i < n.keys.length) : ((kvB c n i).length : Int) = (c.keyMax + 2) + bif n.leaf then c.valMax + 2 else 0 := by
  obtain ⟨h1, h2, _⟩ := okC_t h.ok
  unfold kvB
  have p1 := padB_len ⟨h1, h.key _ (mem_getD hi)⟩
  rw [List.length_append]
  cases hl : n.leaf
  · simp only [Bool.cond_false, List.length_nil]; omega
  · have hf := h.lf hl
    have p2 := padB_len ⟨h2, hf.val _ (mem_getD (by rw [hf.vlen]; exact hi))⟩
    simp only [Bool.cond_true]; omega
theorem keysB_len {c : CfgV} {n : NodeV} (h : GoodF c n) : ∀ {k : Nat}, k ≤ n.keys.length → ((keysB c n k).length : Int) = (k : Int) * ((c.keyMax + 2) + bif n.leaf then c.valMax + 2 else 0)
  | 0, _ => by simp [keysB]
  | k + 1, hk => by
    have ih := keysB_len h (k := k) (by omega)
    have h1 := kvB_len h (i := k) (by omega)
    rw [keysB_succ, List.length_append, Int.natCast_add, ih, h1, Int.natCast_add, Int.add_mul]
    simp
theorem keysB_bd {c : CfgV} {n : NodeV} (h : GoodF c n) {k : Nat} (hk : k ≤ n.keys.length) : (keysB c n k).length ≤ 2100000 := by
  obtain ⟨h1, h2, h3, h4, h5⟩ := okC_t h.ok
  have e := keysB_len h hk
  have hn : (n.keys.length : Int) ≤ 1000 := by
    cases hl : n.leaf
    · have a := (h.inn hl).kf; have b := (h.inn hl).klen; omega
    · have a := (h.lf hl).klen; omega
  have hb : 0 ≤ ((c.keyMax + 2) + bif n.leaf then c.valMax + 2 else 0) ∧ ((c.keyMax + 2) + bif n.leaf then c.valMax + 2 else 0) ≤ 2004 := by
    cases n.leaf
    · simp only [Bool.cond_false]; omega
    · simp only [Bool.cond_true]; omega
  have := mul_bd (show 0 ≤ (k : Int) ∧ (k : Int) ≤ 1000 by omega) hb
  omega
theorem msB_len {c : CfgV} (hok : okC c = true) : ∀ {l : List MsgV}, (∀ m ∈ l, mayL c m = true) → ((msB c l).length : Int) = (l.length : Int) * mlong c
  | [], _ => by simp [msB]
  | m :: l, h => by
    have ih := msB_len hok (l := l) fun x hx => h x (by simp [hx])
    have h1 := msgB_len ⟨hok, h m (by simp)⟩
    unfold msB at ih ⊢
    rw [List.flatMap_cons, List.length_append, Int.natCast_add, ih, h1, List.length_cons, Int.natCast_add, Int.add_mul]
    simp; omega
theorem body_le {c : CfgV} {n : NodeV} (h : GoodF c n) : ((bodyB c n).length : Int) ≤ longL c := by
  obtain ⟨h1, h2, h3, h4, h5⟩ := okC_t h.ok
  have hk := keysB_len h (k := n.keys.length) (Nat.le_refl _)
  unfold bodyB
  rw [List.length_append, List.length_append, List.length_append, headB_len, kidsB_len, longL_t h.ok]
  cases hl : n.leaf
  · have hf := h.inn hl
    rw [hl] at hk
    simp only [Bool.cond_false, Int.add_zero] at hk
    have hm := msB_len h.ok (l := n.msgs) fun m hm => (hf.msg m hm).2
    have hf1 := hf.kf
    have hf2 := hf.klen
    have hf3 := hf.k1
    have a1 : (n.keys.length : Int) * (c.keyMax + 2) ≤ max (c.f - 1) 0 * (c.keyMax + 2) := Int.mul_le_mul_of_nonneg_right (by omega) (by omega)
    have a2 : (n.msgs.length : Int) * mlong c ≤ c.m * mlong c := Int.mul_le_mul_of_nonneg_right hf.mlen (by unfold mlong; omega)
    unfold innerLong
    omega
  · have hf := h.lf hl
    rw [hl] at hk
    simp only [Bool.cond_true] at hk
    have a1 : (n.keys.length : Int) * (c.keyMax + 2 + (c.valMax + 2)) ≤ c.l * (c.keyMax + 2 + (c.valMax + 2)) := Int.mul_le_mul_of_nonneg_right hf.klen (by omega)
    rw [hf.kids, hf.msgs]
    have e : leafLong c = c.l * (c.keyMax + 2 + (c.valMax + 2)) := by unfold leafLong; congr 1; omega
    rw [e]
    show ((5 + _ + 4 * 0 + 0 : Nat) : Int) ≤ _
    omega
theorem msB_bd {c : CfgV} (hok : okC c = true) {l : List MsgV} (h : ∀ m ∈ l, mayL c m = true) (hl : l.length ≤ 1000) : (msB c l).length ≤ 2100000 := by
  obtain ⟨h1, h2, _⟩ := okC_t hok
  have e := msB_len hok h
  have := mul_bd (show 0 ≤ (l.length : Int) ∧ (l.length : Int) ≤ 1000 by omega) (show 0 ≤ mlong c ∧ mlong c ≤ 2005 by unfold mlong; omega)
  omega
theorem codeB_len {c : CfgV} {n : NodeV} (h : GoodF c n) : ((codeB c n).length : Int) = longL c := by
  have := body_le h
  unfold codeB
  rw [List.length_append, List.length_replicate]
  omega
end Go.Proofs.ZtLe
