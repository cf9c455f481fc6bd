/- A part of the proof of NodeBack: walks of the functions that it reaches. No condition. -/
import Derived.Test.YtocpidlgcakldaaZtNoD
import Derived.Test.YtocpidlgcakldaaZmAuto
namespace Go.Proofs.ZtLe
open Go.RowKit Go.Proofs Go.Proofs.Zm
set_option linter.unusedVariables false
set_option linter.unusedSimpArgs false
set_option maxHeartbeats 20000000
set_option maxRecDepth 100000
attribute [local irreducible] ZWp ZOps ZPure ZPure0 ZVal ZOp SoundF

/-! ### dumbwaiterref18.NodeOk -/
theorem leafG_eq {c : CfgV} {n : NodeV} (hv : n.vals.any (longV c) = false) : leafG c n = (decide (((n.keys.length : Nat) : Int) ≤ c.l) && decide (((n.vals.length : Nat) : Int) = (n.keys.length : Nat)) && decide (((n.kids.length : Nat) : Int) = 0) && decide (((n.msgs.length : Nat) : Int) = 0)) := by
  unfold leafG
  rw [hv, Bool.eq_iff_iff]
  simp only [Bool.and_eq_true, decide_eq_true_eq, Bool.not_false, and_true]
  omega
theorem leafG_f {c : CfgV} {n : NodeV} (hv : n.vals.any (longV c) = true) : leafG c n = false := by unfold leafG; rw [hv]; simp
theorem innerG_eq {c : CfgV} {n : NodeV} (h1 : n.kids.any badKid = false) (h2 : n.msgs.any (badMsg c) = false) : innerG c n = (decide (1 ≤ ((n.kids.length : Nat) : Int)) && decide (((n.kids.length : Nat) : Int) ≤ c.f) && decide (((n.keys.length : Nat) : Int) = ((n.kids.length : Nat) : Int) - 1) && decide (((n.vals.length : Nat) : Int) = 0) && decide (((n.msgs.length : Nat) : Int) ≤ c.m)) := by
  unfold innerG; rw [h1, h2]; simp
theorem innerG_f1 {c : CfgV} {n : NodeV} (h : n.kids.any badKid = true) : innerG c n = false := by unfold innerG; rw [h]; simp
theorem innerG_f2 {c : CfgV} {n : NodeV} (h : n.msgs.any (badMsg c) = true) : innerG c n = false := by unfold innerG; rw [h]; simp
theorem goodN_r {c : CfgV} {n : NodeV} (h : risingB c n.keys = false) : goodN c n = false := by unfold goodN; rw [h]; rfl
theorem goodN_l {c : CfgV} {n : NodeV} (h : risingB c n.keys = true) (hl : n.leaf = true) : goodN c n = leafG c n := by unfold goodN; rw [h, hl]; rfl
theorem goodN_i {c : CfgV} {n : NodeV} (h : risingB c n.keys = true) (hl : n.leaf = false) : goodN c n = innerG c n := by unfold goodN; rw [h, hl]; rfl
theorem any_hit {α : Type} {p : α → Bool} {l : List α} {i : Nat} {x : α} (h : l[i]? = some x) (hp : p x = true) : l.any p = true := List.any_eq_true.2 ⟨x, List.mem_of_getElem? h, hp⟩
theorem any_none {α : Type} {p : α → Bool} {l : List α} (h : ∀ y ∈ l, p y = false) : l.any p = false := by
  rw [List.any_eq_false]; exact fun y hy => by rw [h y hy]; simp
theorem snoc_all {α : Type} {p : α → Bool} {l : List α} {i : Nat} {x : α} (ht : l.take (i + 1) = l.take i ++ [x]) (ha : ∀ y ∈ l.take i, p y = false) (hx : p x = false) : ∀ y ∈ l.take (i + 1), p y = false := fun y hy => by
  rw [ht, List.mem_append] at hy
  rcases hy with hy | hy
  · exact ha y hy
  · rw [List.mem_singleton] at hy; subst hy; exact hx
theorem rgood_pf {c : CfgV} {n : NodeV} (h : okC c = true ∧ NodeS n) : PureF Try.prog 25 [.agg (cfgD c), .agg (nodeD n)] (.v (.bool (goodN c n))) := by
  obtain ⟨hok, h⟩ := h
  have k1 := h.keys
  have k2 := h.vals
  have k3 := h.kids
  have k4 := h.msgs
  refine pure_of Try.func25 rfl Try.results25 (by rw [Try.ntmps25]; simp) (fun w0 st K hK => ?_); rw [Try.ntmps25]
  have hS := Sep.nil st
  have hr1 : (rowR n.keys).length = n.keys.length := rowR_length _
  have hr2 : (rowR n.vals).length = n.vals.length := rowR_length _
  have hr3 : (intR n.kids).length = n.kids.length := intR_length _
  have hr4 : (msgR n.msgs).length = n.msgs.length := msgR_length _
  (repeat (first | ((with_reducible apply zr_seq)) | ((with_reducible apply zr_region); (try simp only [List.append_eq, List.cons_append, List.nil_append])) | ((with_reducible apply zo_end)) | ((with_reducible apply zs_assign); (exact rfl); (exact rfl)) | ((with_reducible apply zr_block)) | ((with_reducible apply (zs_boxRef (t := 2))); (exact rfl); (exact rfl)) | ((with_reducible apply (zs_boxRef (t := 3))); (exact rfl); (exact rfl))))
  refine zr_loopK [2, 3] (fun m e s => ∃ i : Nat, m + i = n.keys.length ∧ e = [(5, .v (.int .i64 (i : Nat)))] ∧ Zm.Sep st s [] ∧ ∀ j, j < i → badKey c n.keys j = false) n.keys.length _ zq19 ⟨0, by omega, rfl, hS, fun j hj => by omega⟩ zq21 ?_
  rintro m e s ⟨i, hm, rfl, hS, hall⟩
  (repeat (first | ((with_reducible apply zr_seq)) | ((with_reducible apply zr_region); (try simp only [List.append_eq, List.cons_append, List.nil_append])) | ((with_reducible apply zo_end)) | ((with_reducible apply zs_move); (exact rfl); (exact rfl)) | ((with_reducible apply zs_lss); (exact rfl); (exact rfl); (exact rfl)) | ((with_reducible apply zs_len); (exact rfl); (exact rfl); (exact un_sl rfl)) | ((with_reducible apply zs_field_ref); (exact rfl); (exact rfl); (exact fld_of rfl)) | ((with_reducible apply zs_load_ref); (exact rfl); (exact rfl); (exact sh_of rfl); (exact rfl))))
  (first | refine zr_cond rfl (fun h1 => ?_) (fun h1 => ?_) | refine zs_split rfl rfl (fun h1 => ?_) (fun h1 => ?_)) <;> have h1' := h1 <;> (try simp only [decide_eq_true_eq, decide_eq_false_iff_not, Bool.and_eq_true, Bool.or_eq_true, Bool.and_eq_false_iff, Bool.or_eq_false_iff, Bool.not_eq_true', Bool.not_eq_false', Bool.not_eq_true, Bool.not_eq_false, Int.not_le, Int.not_lt, Classical.not_not, Decidable.not_not, ne_eq, beq_iff_eq, bne_iff_ne] at h1')
  · have hi : i < n.keys.length := by omega
    obtain ⟨b, hb, _, _, hbg⟩ := eltK hi
    cases h5 : decide (c.keyMax < ((b.length : Nat) : Int))
    · by_cases hi0 : i = 0
      · have g2 : decide ((0 : Int) < (i : Nat)) = false := decide_eq_false (by omega)
        have hbk : badKey c n.keys i = false := by unfold badKey; rw [getD_k hb, h5, g2]; rfl
        (repeat (first | ((with_reducible apply zr_seq)) | ((with_reducible apply zr_block)) | ((with_reducible apply zr_skip'))))
        refine zc_begin (m := 28) ([]) [] zq36 rfl ?_
        refine zc_take0 (i := 0) rfl zq36 zq36 zq36 zq36 zq26 rfl rfl zq18 ?_
        refine zc_take0 (i := 1) rfl zq36 zq36 zq36 zq36 zq26 rfl rfl (zp_load_ref rfl zq33 rfl rfl) ?_
        refine zc_take0 (i := 2) rfl zq36 zq36 zq36 zq36 zq26 rfl rfl (ZPure0.pure (zp_move rfl rfl)) ?_
        refine zc_take0 (i := 3) rfl zq36 zq36 zq36 zq36 zq26 rfl rfl zq0 ?_
        refine zc_take0 (i := 4) rfl zq36 zq36 zq36 zq36 zq26 rfl rfl (zp_load_ref rfl zq33 rfl rfl) ?_
        refine zc_take0 (i := 5) rfl zq36 zq36 zq36 zq36 zq26 rfl rfl zq8 ?_
        refine zc_take0 (i := 6) rfl zq36 zq36 zq36 zq36 zq26 rfl rfl zq18 ?_
        refine zc_take0 (i := 7) rfl zq36 zq36 zq36 zq36 zq26 rfl rfl (zp_load_ref rfl zq33 rfl rfl) ?_
        refine zc_take0 (i := 8) rfl zq36 zq36 zq36 zq36 zq26 rfl rfl (ZPure0.pure (zp_gtr rfl rfl rfl)) ?_
        refine zc_take0 (i := 9) rfl zq36 zq36 zq36 zq36 zq26 rfl rfl (ZPure0.pure (zp_move rfl rfl)) ?_
        refine zc_take0 (i := 10) rfl zq36 zq36 zq36 zq36 zq26 rfl rfl (ZPure0.pure (zp_move rfl rfl)) ?_
        refine zc_take0 (i := 11) rfl zq36 zq36 zq36 zq36 zq26 rfl rfl (ZPure0.pure (zp_gtr rfl rfl rfl)) ?_
        refine zc_take0 (i := 12) rfl zq36 zq36 zq36 zq36 zq26 rfl rfl (ZPure0.pure (zp_move rfl rfl)) ?_
        refine zc_notU (i := 13) rfl zq36 zq36 zq36 zq36 zq14 rfl ?_
        refine zc_notU (i := 14) rfl zq36 zq36 zq36 zq36 zq14 rfl ?_
        refine zc_notU (i := 15) rfl zq36 zq36 zq36 zq36 zq14 rfl ?_
        refine zc_notU (i := 16) rfl zq36 zq36 zq36 zq36 zq14 rfl ?_
        refine zc_notU (i := 17) rfl zq36 zq36 zq36 zq36 zq14 rfl ?_
        refine zc_notU (i := 18) rfl zq36 zq36 zq36 zq36 zq14 rfl ?_
        refine zc_notU (i := 19) rfl zq36 zq36 zq36 zq36 zq14 rfl ?_
        refine zc_notU (i := 20) rfl zq36 zq36 zq36 zq36 zq14 rfl ?_
        refine zc_notU (i := 21) rfl zq36 zq36 zq36 zq36 zq14 rfl ?_
        refine zc_notU (i := 22) rfl zq36 zq36 zq36 zq36 zq14 rfl ?_
        refine zc_notU (i := 23) rfl zq36 zq36 zq36 zq36 zq14 rfl ?_
        skip
        refine zc_notU (i := 24) rfl zq36 zq36 zq36 zq36 zq14 rfl ?_
        refine zc_notU (i := 25) rfl zq36 zq36 zq36 zq36 zq14 rfl ?_
        refine zc_take0 (i := 26) rfl zq36 zq36 zq36 zq36 zq26 rfl rfl zq16 ?_
        refine zc_take0 (i := 27) rfl zq36 zq36 zq36 zq36 zq26 rfl rfl zq16 ?_
        refine zc_end (fun _ => by first | assumption | (repeat (first | exact BOwn.nil _ | refine BOwn.cons zq5 ?_))) zq36 ?_
        (repeat (first | ((with_reducible apply zr_region); (try simp only [List.append_eq, List.cons_append, List.nil_append])) | ((with_reducible apply zo_end)) | ((with_reducible apply zs_move); (exact rfl); (exact rfl)) | ((with_reducible apply zs_assign); (exact rfl); (exact rfl)) | ((with_reducible apply zs_add); (exact rfl); (exact rfl); (exact rfl); (first | (with_reducible assumption) | exact wrap_in64 (by omega) (by omega))) | ((with_reducible apply zr_cond_f); (exact rfl); (first | assumption | exact rfl)) | ((with_reducible apply zr_skipB))))
        refine ⟨m - 1, _, by omega, ⟨i + 1, by omega, rfl, hS, fun j hj => ?_⟩, zq21, zq21⟩
        by_cases hji : j = i
        · subst hji; exact hbk
        · exact hall j (by omega)
      · have g2 : decide ((0 : Int) < (i : Nat)) = true := decide_eq_true (by omega)
        obtain ⟨b0, hb0, _, _, hbg0⟩ := eltK (l := n.keys) (i := i - 1) (by omega)
        have hbg1 : (rowR n.keys).getD ((i : Int) - 1).toNat [] = [D.row (bytesD b0) 1 0] := by rw [show ((i : Int) - 1).toNat = i - 1 by omega]; exact hbg0
        have hbk : badKey c n.keys i = !lt b0 b := by unfold badKey; rw [getD_k hb, getD_k hb0, h5, g2]; rfl
        (repeat (first | ((with_reducible apply zr_seq)) | ((with_reducible apply zr_block)) | ((with_reducible apply zr_skip'))))
        refine zc_begin (m := 28) ([]) [] zq36 rfl ?_
        refine zc_take0 (i := 0) rfl zq36 zq36 zq36 zq36 zq26 rfl rfl zq18 ?_
        refine zc_take0 (i := 1) rfl zq36 zq36 zq36 zq36 zq26 rfl rfl (zp_load_ref rfl zq33 rfl rfl) ?_
        refine zc_take0 (i := 2) rfl zq36 zq36 zq36 zq36 zq26 rfl rfl (ZPure0.pure (zp_move rfl rfl)) ?_
        refine zc_take0 (i := 3) rfl zq36 zq36 zq36 zq36 zq26 rfl rfl zq0 ?_
        refine zc_take0 (i := 4) rfl zq36 zq36 zq36 zq36 zq26 rfl rfl (zp_load_ref rfl zq33 rfl rfl) ?_
        refine zc_take0 (i := 5) rfl zq36 zq36 zq36 zq36 zq26 rfl rfl zq8 ?_
        refine zc_take0 (i := 6) rfl zq36 zq36 zq36 zq36 zq26 rfl rfl zq18 ?_
        refine zc_take0 (i := 7) rfl zq36 zq36 zq36 zq36 zq26 rfl rfl (zp_load_ref rfl zq33 rfl rfl) ?_
        refine zc_take0 (i := 8) rfl zq36 zq36 zq36 zq36 zq26 rfl rfl (ZPure0.pure (zp_gtr rfl rfl rfl)) ?_
        refine zc_take0 (i := 9) rfl zq36 zq36 zq36 zq36 zq26 rfl rfl (ZPure0.pure (zp_move rfl rfl)) ?_
        refine zc_take0 (i := 10) rfl zq36 zq36 zq36 zq36 zq26 rfl rfl (ZPure0.pure (zp_move rfl rfl)) ?_
        refine zc_take0 (i := 11) rfl zq36 zq36 zq36 zq36 zq26 rfl rfl (ZPure0.pure (zp_gtr rfl rfl rfl)) ?_
        refine zc_take0 (i := 12) rfl zq36 zq36 zq36 zq36 zq26 rfl rfl (ZPure0.pure (zp_move rfl rfl)) ?_
        refine zc_take0 (i := 13) rfl zq36 zq36 zq36 zq36 zq26 rfl rfl zq18 ?_
        refine zc_take0 (i := 14) rfl zq36 zq36 zq36 zq36 zq26 rfl rfl (zp_load_ref rfl zq33 rfl rfl) ?_
        refine zc_take0 (i := 15) rfl zq36 zq36 zq36 zq36 zq26 rfl rfl (ZPure0.pure (zp_move rfl rfl)) ?_
        refine zc_take0 (i := 16) rfl zq36 zq36 zq36 zq36 zq26 rfl rfl (ZPure0.pure (zp_sub rfl rfl rfl zq27)) ?_
        refine zc_take0 (i := 17) rfl zq36 zq36 zq36 zq36 zq26 rfl rfl zq0 ?_
        refine zc_take0 (i := 18) rfl zq36 zq36 zq36 zq36 zq26 rfl rfl (zp_load_ref rfl zq33 rfl rfl) ?_
        refine zc_take0 (i := 19) rfl zq36 zq36 zq36 zq36 zq26 rfl rfl zq18 ?_
        refine zc_take0 (i := 20) rfl zq36 zq36 zq36 zq36 zq26 rfl rfl (zp_load_ref rfl zq33 rfl rfl) ?_
        refine zc_take0 (i := 21) rfl zq36 zq36 zq36 zq36 zq26 rfl rfl (ZPure0.pure (zp_move rfl rfl)) ?_
        refine zc_take0 (i := 22) rfl zq36 zq36 zq36 zq36 zq26 rfl rfl zq0 ?_
        refine zc_take0 (i := 23) rfl zq36 zq36 zq36 zq36 zq26 rfl rfl (zp_load_ref rfl zq33 rfl rfl) ?_
        skip
        refine zc_one (i := 24) (fun _ => by first | assumption | (repeat (first | exact BOwn.nil _ | refine BOwn.cons zq5 ?_))) zq36 rfl zq26 (zop_callQ rless_pf cl_57 rfl rfl (by decide) rfl rfl zq17 ?_ ?_)
        · trivial
        refine zc_take0 (i := 25) rfl zq36 zq36 zq36 zq36 zq26 rfl rfl (ZPure0.pure (zp_not rfl rfl)) ?_
        refine zc_take0 (i := 26) rfl zq36 zq36 zq36 zq36 zq26 rfl rfl zq16 ?_
        refine zc_take0 (i := 27) rfl zq36 zq36 zq36 zq36 zq26 rfl rfl zq16 ?_
        refine zc_end (fun _ => by first | assumption | (repeat (first | exact BOwn.nil _ | refine BOwn.cons zq5 ?_))) zq36 ?_
        skip
        cases hlt : (!lt b0 b)
        · rw [hlt] at hbk
          (repeat (first | ((with_reducible apply zr_region); (try simp only [List.append_eq, List.cons_append, List.nil_append])) | ((with_reducible apply zo_end)) | ((with_reducible apply zs_move); (exact rfl); (exact rfl)) | ((with_reducible apply zs_assign); (exact rfl); (exact rfl)) | ((with_reducible apply zs_add); (exact rfl); (exact rfl); (exact rfl); (first | (with_reducible assumption) | exact wrap_in64 (by omega) (by omega))) | ((with_reducible apply zr_cond_f); (exact rfl); (first | assumption | exact rfl)) | ((with_reducible apply zr_skipB))))
          refine ⟨m - 1, _, by omega, ⟨i + 1, by omega, rfl, hS, fun j hj => ?_⟩, zq21, zq21⟩
          by_cases hji : j = i
          · subst hji; exact hbk
          · exact hall j (by omega)
        · rw [hlt] at hbk
          rw [goodN_r (rising_f hi hbk)] at hK
          (repeat (first | ((with_reducible apply zr_seq)) | ((with_reducible apply zr_region); (try simp only [List.append_eq, List.cons_append, List.nil_append])) | ((with_reducible apply zo_end)) | ((with_reducible apply zs_assign); (exact rfl); (exact rfl)) | ((with_reducible apply zr_cond_t); (exact rfl); (first | assumption | exact rfl)) | ((with_reducible apply zr_retZ); (exact rfl); (repeat (first | exact resD_nil _ _ _ | ((with_reducible apply resD_tmp); (exact rfl)) | ((with_reducible apply resD_cell_agg); (exact rfl); (exact sh_of rfl); (first | assumption | exact St.setH_self _ _ _ | exact Sep.at_ (i := 0) zq35 rfl | exact Sep.at_ (i := 1) zq35 rfl | exact Sep.at_ (i := 2) zq35 rfl | exact Sep.at_ (i := 3) zq35 rfl | exact Sep.at_ (i := 4) zq35 rfl | exact Sep.at_ (i := 5) zq35 rfl | exact Sep.at_ (i := 6) zq35 rfl); (exact rfl)) | ((with_reducible apply resD_cell); (exact rfl); (exact sh_of rfl); (first | assumption | exact St.setH_self _ _ _ | exact Sep.at_ (i := 0) zq35 rfl | exact Sep.at_ (i := 1) zq35 rfl | exact Sep.at_ (i := 2) zq35 rfl | exact Sep.at_ (i := 3) zq35 rfl | exact Sep.at_ (i := 4) zq35 rfl | exact Sep.at_ (i := 5) zq35 rfl | exact Sep.at_ (i := 6) zq35 rfl); (exact rfl)))); (simp only [resOf]))))
          exact KE.mk _ hS.ext hK
    · have hbk : badKey c n.keys i = true := by unfold badKey; rw [getD_k hb, h5]; rfl
      rw [goodN_r (rising_f hi hbk)] at hK
      (repeat (first | ((with_reducible apply zr_seq)) | ((with_reducible apply zr_block)) | ((with_reducible apply zr_skip'))))
      refine zc_begin (m := 28) ([]) [] zq36 rfl ?_
      refine zc_take0 (i := 0) rfl zq36 zq36 zq36 zq36 zq26 rfl rfl zq18 ?_
      refine zc_take0 (i := 1) rfl zq36 zq36 zq36 zq36 zq26 rfl rfl (zp_load_ref rfl zq33 rfl rfl) ?_
      refine zc_take0 (i := 2) rfl zq36 zq36 zq36 zq36 zq26 rfl rfl (ZPure0.pure (zp_move rfl rfl)) ?_
      refine zc_take0 (i := 3) rfl zq36 zq36 zq36 zq36 zq26 rfl rfl zq0 ?_
      refine zc_take0 (i := 4) rfl zq36 zq36 zq36 zq36 zq26 rfl rfl (zp_load_ref rfl zq33 rfl rfl) ?_
      refine zc_take0 (i := 5) rfl zq36 zq36 zq36 zq36 zq26 rfl rfl zq8 ?_
      refine zc_take0 (i := 6) rfl zq36 zq36 zq36 zq36 zq26 rfl rfl zq18 ?_
      refine zc_take0 (i := 7) rfl zq36 zq36 zq36 zq36 zq26 rfl rfl (zp_load_ref rfl zq33 rfl rfl) ?_
      refine zc_take0 (i := 8) rfl zq36 zq36 zq36 zq36 zq26 rfl rfl (ZPure0.pure (zp_gtr rfl rfl rfl)) ?_
      refine zc_take0 (i := 9) rfl zq36 zq36 zq36 zq36 zq26 rfl rfl (ZPure0.pure (zp_move rfl rfl)) ?_
      refine zc_notU (i := 10) rfl zq36 zq36 zq36 zq36 zq14 rfl ?_
      refine zc_notU (i := 11) rfl zq36 zq36 zq36 zq36 zq14 rfl ?_
      refine zc_notU (i := 12) rfl zq36 zq36 zq36 zq36 zq14 rfl ?_
      refine zc_notU (i := 13) rfl zq36 zq36 zq36 zq36 zq14 rfl ?_
      refine zc_notU (i := 14) rfl zq36 zq36 zq36 zq36 zq14 rfl ?_
      refine zc_notU (i := 15) rfl zq36 zq36 zq36 zq36 zq14 rfl ?_
      refine zc_notU (i := 16) rfl zq36 zq36 zq36 zq36 zq14 rfl ?_
      refine zc_notU (i := 17) rfl zq36 zq36 zq36 zq36 zq14 rfl ?_
      refine zc_notU (i := 18) rfl zq36 zq36 zq36 zq36 zq14 rfl ?_
      refine zc_notU (i := 19) rfl zq36 zq36 zq36 zq36 zq14 rfl ?_
      refine zc_notU (i := 20) rfl zq36 zq36 zq36 zq36 zq14 rfl ?_
      refine zc_notU (i := 21) rfl zq36 zq36 zq36 zq36 zq14 rfl ?_
      refine zc_notU (i := 22) rfl zq36 zq36 zq36 zq36 zq14 rfl ?_
      refine zc_notU (i := 23) rfl zq36 zq36 zq36 zq36 zq14 rfl ?_
      skip
      refine zc_notU (i := 24) rfl zq36 zq36 zq36 zq36 zq14 rfl ?_
      refine zc_notU (i := 25) rfl zq36 zq36 zq36 zq36 zq14 rfl ?_
      refine zc_notU (i := 26) rfl zq36 zq36 zq36 zq36 zq14 rfl ?_
      refine zc_take0 (i := 27) rfl zq36 zq36 zq36 zq36 zq26 rfl rfl zq16 ?_
      refine zc_end (fun _ => by first | assumption | (repeat (first | exact BOwn.nil _ | refine BOwn.cons zq5 ?_))) zq36 ?_
      (repeat (first | ((with_reducible apply zr_seq)) | ((with_reducible apply zr_region); (try simp only [List.append_eq, List.cons_append, List.nil_append])) | ((with_reducible apply zo_end)) | ((with_reducible apply zs_assign); (exact rfl); (exact rfl)) | ((with_reducible apply zr_cond_t); (exact rfl); (first | assumption | exact rfl)) | ((with_reducible apply zr_retZ); (exact rfl); (repeat (first | exact resD_nil _ _ _ | ((with_reducible apply resD_tmp); (exact rfl)) | ((with_reducible apply resD_cell_agg); (exact rfl); (exact sh_of rfl); (first | assumption | exact St.setH_self _ _ _ | exact Sep.at_ (i := 0) zq35 rfl | exact Sep.at_ (i := 1) zq35 rfl | exact Sep.at_ (i := 2) zq35 rfl | exact Sep.at_ (i := 3) zq35 rfl | exact Sep.at_ (i := 4) zq35 rfl | exact Sep.at_ (i := 5) zq35 rfl | exact Sep.at_ (i := 6) zq35 rfl); (exact rfl)) | ((with_reducible apply resD_cell); (exact rfl); (exact sh_of rfl); (first | assumption | exact St.setH_self _ _ _ | exact Sep.at_ (i := 0) zq35 rfl | exact Sep.at_ (i := 1) zq35 rfl | exact Sep.at_ (i := 2) zq35 rfl | exact Sep.at_ (i := 3) zq35 rfl | exact Sep.at_ (i := 4) zq35 rfl | exact Sep.at_ (i := 5) zq35 rfl | exact Sep.at_ (i := 6) zq35 rfl); (exact rfl)))); (simp only [resOf]))))
      exact KE.mk _ hS.ext hK
  · have hri : risingB c n.keys = true := rising_t (fun j hj => hall j (by omega))
    cases hlf : n.leaf
    · rw [goodN_i hri hlf] at hK
      (repeat (first | ((with_reducible apply zr_seq)) | ((with_reducible apply zr_region); (try simp only [List.append_eq, List.cons_append, List.nil_append])) | ((with_reducible apply zo_end)) | ((with_reducible apply zs_assign); (exact rfl); (exact rfl)) | ((with_reducible apply zr_cond_f); (exact rfl); (first | assumption | exact rfl)) | ((with_reducible apply zr_block)) | (with_reducible refine zr_exit ?_; simp only [Zthen, Zblock, ↓reduceIte]) | ((with_reducible apply zr_skip')) | ((with_reducible apply zs_field_ref); (exact rfl); (exact rfl); (exact fld_of rfl)) | ((with_reducible apply zs_load_ref); (exact rfl); (exact rfl); (exact sh_of rfl); (exact rfl))))
      refine zr_loopK [2, 3] (fun m e s' => ∃ i : Nat, m + i = n.kids.length ∧ e = [(7, .v (.int .i64 (i : Nat)))] ∧ Zm.Sep st s' [] ∧ ∀ y ∈ n.kids.take i, badKid y = false) n.kids.length _ zq19 ⟨0, by omega, rfl, hS, by simp⟩ zq21 ?_
      rintro m e s' ⟨i, hm, rfl, hS, hall⟩
      (repeat (first | ((with_reducible apply zr_seq)) | ((with_reducible apply zr_region); (try simp only [List.append_eq, List.cons_append, List.nil_append])) | ((with_reducible apply zo_end)) | ((with_reducible apply zs_move); (exact rfl); (exact rfl)) | ((with_reducible apply zs_lss); (exact rfl); (exact rfl); (exact rfl)) | ((with_reducible apply zs_len); (exact rfl); (exact rfl); (exact un_sl rfl)) | ((with_reducible apply zs_field_ref); (exact rfl); (exact rfl); (exact fld_of rfl)) | ((with_reducible apply zs_load_ref); (exact rfl); (exact rfl); (exact sh_of rfl); (exact rfl))))
      (first | refine zr_cond rfl (fun h2 => ?_) (fun h2 => ?_) | refine zs_split rfl rfl (fun h2 => ?_) (fun h2 => ?_)) <;> have h2' := h2 <;> (try simp only [decide_eq_true_eq, decide_eq_false_iff_not, Bool.and_eq_true, Bool.or_eq_true, Bool.and_eq_false_iff, Bool.or_eq_false_iff, Bool.not_eq_true', Bool.not_eq_false', Bool.not_eq_true, Bool.not_eq_false, Int.not_le, Int.not_lt, Classical.not_not, Decidable.not_not, ne_eq, beq_iff_eq, bne_iff_ne] at h2')
      · have hi : i < n.kids.length := by omega
        obtain ⟨b, hb, hbt, _, hbg⟩ := eltI hi
        (repeat (first | ((with_reducible apply zr_seq)) | ((with_reducible apply zr_region); (try simp only [List.append_eq, List.cons_append, List.nil_append])) | ((with_reducible apply zs_move); (exact rfl); (exact rfl)) | ((with_reducible apply zs_lss); (exact rfl); (exact rfl); (exact rfl)) | ((with_reducible apply zr_block)) | ((with_reducible apply zr_skip')) | ((with_reducible apply zs_field_ref); (exact rfl); (exact rfl); (exact fld_of rfl)) | ((with_reducible apply zs_load_ref); (exact rfl); (exact rfl); (exact sh_of rfl); (exact rfl)) | ((with_reducible apply zs_idxE); (exact rfl); (exact rfl); (exact rfl); (exact un_sl rfl); (exact ii_of rfl); (first | omega | (simp only [List.length_map, List.length_take, List.length_drop, List.length_append, List.length_cons, List.length_nil, List.length_replicate, rowR_length, intR_length, msgR_length, pairR_length]; omega) | decide); (first | omega | (simp only [List.length_map, List.length_take, List.length_drop, List.length_append, List.length_cons, List.length_nil, List.length_replicate, rowR_length, intR_length, msgR_length, pairR_length]; omega) | decide); (first | (with_reducible exact Int.toNat_natCast _) | (simp only [Int.reduceToNat]; exact rfl) | exact rfl); (assumption)) | ((with_reducible apply (zs_h_move [])); (exact rfl); (first | exact GC.t rfl rfl | exact GC.f rfl rfl | exact GC.gt rfl rfl | exact GC.gf rfl rfl); (exact rfl); (intro hc_; first | exact congrArg some (gd_t hc_) | exact congrArg some (gd_t (band_l hc_)) | exact congrArg some (gd_t (band_l (band_l hc_))) | exact rfl)) | ((with_reducible apply (zs_h_field_ref [])); (exact rfl); (first | exact GC.t rfl rfl | exact GC.f rfl rfl | exact GC.gt rfl rfl | exact GC.gf rfl rfl); (exact rfl); (intro hc_; first | exact congrArg some (gd_t hc_) | exact congrArg some (gd_t (band_l hc_)) | exact congrArg some (gd_t (band_l (band_l hc_))) | exact rfl); (intro _; exact fld_of rfl)) | ((with_reducible apply (zs_h_load_ref [])); (exact rfl); (first | exact GC.t rfl rfl | exact GC.f rfl rfl | exact GC.gt rfl rfl | exact GC.gf rfl rfl); (exact rfl); (intro hc_; first | exact congrArg some (gd_t hc_) | exact congrArg some (gd_t (band_l hc_)) | exact congrArg some (gd_t (band_l (band_l hc_))) | exact rfl); (intro _; exact sh_of rfl); (intro _; exact rfl)) | ((with_reducible apply (zs_h_idx [])); (exact rfl); (first | exact GC.t rfl rfl | exact GC.f rfl rfl | exact GC.gt rfl rfl | exact GC.gf rfl rfl); (exact rfl); (intro hc_; first | exact congrArg some (gd_t hc_) | exact congrArg some (gd_t (band_l hc_)) | exact congrArg some (gd_t (band_l (band_l hc_))) | exact rfl); (intro hc_; first | exact congrArg some (gd_t hc_) | exact congrArg some (gd_t (band_l hc_)) | exact congrArg some (gd_t (band_l (band_l hc_))) | exact rfl); (exact un_sl rfl); (exact ii_of rfl); (intro hc_; (try simp only [Bool.and_eq_true, Bool.or_eq_true, decide_eq_true_eq, Bool.not_eq_true', decide_eq_false_iff_not] at hc_); first | omega | (simp only [List.length_map, rowR_length, intR_length, msgR_length, pairR_length]; omega)); (intro hc_; (try simp only [Bool.and_eq_true, Bool.or_eq_true, decide_eq_true_eq, Bool.not_eq_true', decide_eq_false_iff_not] at hc_); first | omega | (simp only [List.length_map, rowR_length, intR_length, msgR_length, pairR_length]; omega)); (first | (with_reducible exact Int.toNat_natCast _) | (simp only [Int.reduceToNat]; exact rfl) | exact rfl))))
        rw [hbg]
        (repeat (first | ((with_reducible apply zo_end)) | ((with_reducible apply zs_orB); (exact rfl); (exact rfl); (exact rfl); (intro hp_; first | exact congrArg some (gd_t hp_) | exact rfl)) | ((with_reducible apply (zs_h_geq [])); (exact rfl); (first | exact GC.t rfl rfl | exact GC.f rfl rfl | exact GC.gt rfl rfl | exact GC.gf rfl rfl); (exact rfl); (intro hc_; first | exact congrArg some (gd_t hc_) | exact congrArg some (gd_t (band_l hc_)) | exact congrArg some (gd_t (band_l (band_l hc_))) | exact rfl); (intro hc_; first | exact congrArg some (gd_t hc_) | exact congrArg some (gd_t (band_l hc_)) | exact congrArg some (gd_t (band_l (band_l hc_))) | exact rfl)) | ((with_reducible apply (zs_h_load_ref [])); (exact rfl); (first | exact GC.t rfl rfl | exact GC.f rfl rfl | exact GC.gt rfl rfl | exact GC.gf rfl rfl); (exact rfl); (intro hc_; first | exact congrArg some (gd_t hc_) | exact congrArg some (gd_t (band_l hc_)) | exact congrArg some (gd_t (band_l (band_l hc_))) | exact rfl); (intro _; exact sh_of rfl); (intro _; exact rfl))))
        have hbk : badKid b = (decide (b < 1) || decide (2147483648 ≤ b)) := by unfold badKid; rw [Bool.eq_iff_iff]; simp only [Bool.or_eq_true, decide_eq_true_eq]; omega
        cases hkb : (decide (b < 1) || decide (2147483648 ≤ b))
        · rw [hkb] at hbk
          (repeat (first | ((with_reducible apply zr_region); (try simp only [List.append_eq, List.cons_append, List.nil_append])) | ((with_reducible apply zo_end)) | ((with_reducible apply zs_move); (exact rfl); (exact rfl)) | ((with_reducible apply zs_assign); (exact rfl); (exact rfl)) | ((with_reducible apply zs_add); (exact rfl); (exact rfl); (exact rfl); (first | (with_reducible assumption) | exact wrap_in64 (by omega) (by omega))) | ((with_reducible apply zr_cond_f); (exact rfl); (first | assumption | exact rfl)) | ((with_reducible apply zr_skipB))))
          exact ⟨m - 1, _, by omega, ⟨i + 1, by omega, rfl, hS, snoc_all hbt hall hbk⟩, zq21, zq21⟩
        · rw [hkb] at hbk
          rw [innerG_f1 (any_hit hb hbk)] at hK
          (repeat (first | ((with_reducible apply zr_seq)) | ((with_reducible apply zr_region); (try simp only [List.append_eq, List.cons_append, List.nil_append])) | ((with_reducible apply zo_end)) | ((with_reducible apply zs_assign); (exact rfl); (exact rfl)) | ((with_reducible apply zr_cond_t); (exact rfl); (first | assumption | exact rfl)) | ((with_reducible apply zr_retZ); (exact rfl); (repeat (first | exact resD_nil _ _ _ | ((with_reducible apply resD_tmp); (exact rfl)) | ((with_reducible apply resD_cell_agg); (exact rfl); (exact sh_of rfl); (first | assumption | exact St.setH_self _ _ _ | exact Sep.at_ (i := 0) zq35 rfl | exact Sep.at_ (i := 1) zq35 rfl | exact Sep.at_ (i := 2) zq35 rfl | exact Sep.at_ (i := 3) zq35 rfl | exact Sep.at_ (i := 4) zq35 rfl | exact Sep.at_ (i := 5) zq35 rfl | exact Sep.at_ (i := 6) zq35 rfl); (exact rfl)) | ((with_reducible apply resD_cell); (exact rfl); (exact sh_of rfl); (first | assumption | exact St.setH_self _ _ _ | exact Sep.at_ (i := 0) zq35 rfl | exact Sep.at_ (i := 1) zq35 rfl | exact Sep.at_ (i := 2) zq35 rfl | exact Sep.at_ (i := 3) zq35 rfl | exact Sep.at_ (i := 4) zq35 rfl | exact Sep.at_ (i := 5) zq35 rfl | exact Sep.at_ (i := 6) zq35 rfl); (exact rfl)))); (simp only [resOf]))))
          exact KE.mk _ hS.ext hK
      · have hi : i = n.kids.length := by omega
        subst hi
        rw [List.take_length] at hall
        have hk0 := any_none hall
        (repeat (first | ((with_reducible apply zr_seq)) | ((with_reducible apply zr_region); (try simp only [List.append_eq, List.cons_append, List.nil_append])) | ((with_reducible apply zo_end)) | ((with_reducible apply zs_assign); (exact rfl); (exact rfl)) | ((with_reducible apply zr_block)) | (with_reducible refine zr_exit ?_; simp only [Zthen, Zblock, ↓reduceIte])))
        refine zr_loopK [2, 3] (fun m e s' => ∃ i : Nat, m + i = n.msgs.length ∧ e = [(8, .v (.int .i64 (i : Nat)))] ∧ Zm.Sep st s' [] ∧ ∀ y ∈ n.msgs.take i, badMsg c y = false) n.msgs.length _ zq19 ⟨0, by omega, rfl, hS, by simp⟩ zq21 ?_
        rintro m e s' ⟨i, hm, rfl, hS, hall⟩
        (repeat (first | ((with_reducible apply zr_seq)) | ((with_reducible apply zr_region); (try simp only [List.append_eq, List.cons_append, List.nil_append])) | ((with_reducible apply zo_end)) | ((with_reducible apply zs_move); (exact rfl); (exact rfl)) | ((with_reducible apply zs_lss); (exact rfl); (exact rfl); (exact rfl)) | ((with_reducible apply zs_len); (exact rfl); (exact rfl); (exact un_sl rfl)) | ((with_reducible apply zs_field_ref); (exact rfl); (exact rfl); (exact fld_of rfl)) | ((with_reducible apply zs_load_ref); (exact rfl); (exact rfl); (exact sh_of rfl); (exact rfl))))
        (first | refine zr_cond rfl (fun h3 => ?_) (fun h3 => ?_) | refine zs_split rfl rfl (fun h3 => ?_) (fun h3 => ?_)) <;> have h3' := h3 <;> (try simp only [decide_eq_true_eq, decide_eq_false_iff_not, Bool.and_eq_true, Bool.or_eq_true, Bool.and_eq_false_iff, Bool.or_eq_false_iff, Bool.not_eq_true', Bool.not_eq_false', Bool.not_eq_true, Bool.not_eq_false, Int.not_le, Int.not_lt, Classical.not_not, Decidable.not_not, ne_eq, beq_iff_eq, bne_iff_ne] at h3')
        · have hi : i < n.msgs.length := by omega
          obtain ⟨b, hb, hbt, _, hbg⟩ := eltM hi
          have hbm : okC c = true ∧ MB b := ⟨hok, h.mb b (List.mem_of_getElem? hb)⟩
          cases hml : mayL c b
          · have hg1 : (!mayL c b) = true := by rw [hml]; rfl
            rw [innerG_f2 (any_hit hb (by unfold badMsg; rw [hml]; simp))] at hK
            (repeat (first | ((with_reducible apply zr_seq)) | ((with_reducible apply zr_block)) | ((with_reducible apply zr_skip'))))
            refine zc_begin (m := 17) ([]) [] zq36 rfl ?_
            refine zc_take0 (i := 0) rfl zq36 zq36 zq36 zq36 zq26 rfl rfl (zp_load_refAll rfl zq33 rfl rfl) ?_
            refine zc_take0 (i := 1) rfl zq36 zq36 zq36 zq36 zq26 rfl rfl zq18 ?_
            refine zc_take0 (i := 2) rfl zq36 zq36 zq36 zq36 zq26 rfl rfl (zp_load_ref rfl zq33 rfl rfl) ?_
            refine zc_take0 (i := 3) rfl zq36 zq36 zq36 zq36 zq26 rfl rfl (ZPure0.pure (zp_move rfl rfl)) ?_
            refine zc_take0 (i := 4) rfl zq36 zq36 zq36 zq36 zq26 rfl rfl zq0 ?_
            refine zc_take0 (i := 5) rfl zq36 zq36 zq36 zq36 zq26 rfl rfl (zp_load_refAll rfl zq33 rfl rfl) ?_
            refine zc_one (i := 6) (fun _ => by first | assumption | (repeat (first | exact BOwn.nil _ | refine BOwn.cons zq5 ?_))) zq36 rfl zq26 (zop_callQ rmay_pf cl_51 rfl rfl (by decide) rfl rfl zq17 zq13 ?_)
            refine zc_take0 (i := 7) rfl zq36 zq36 zq36 zq36 zq26 rfl rfl (ZPure0.pure (zp_not rfl rfl)) ?_
            refine zc_take0 (i := 8) rfl zq36 zq36 zq36 zq36 zq26 rfl rfl (ZPure0.pure (zp_move rfl rfl)) ?_
            refine zc_notU (i := 9) rfl zq36 zq36 zq36 zq36 zq14 rfl ?_
            refine zc_notU (i := 10) rfl zq36 zq36 zq36 zq36 zq14 rfl ?_
            refine zc_notU (i := 11) rfl zq36 zq36 zq36 zq36 zq14 rfl ?_
            refine zc_notU (i := 12) rfl zq36 zq36 zq36 zq36 zq14 rfl ?_
            refine zc_notU (i := 13) rfl zq36 zq36 zq36 zq36 zq14 rfl ?_
            refine zc_notU (i := 14) rfl zq36 zq36 zq36 zq36 zq14 rfl ?_
            refine zc_notU (i := 15) rfl zq36 zq36 zq36 zq36 zq14 rfl ?_
            refine zc_take0 (i := 16) rfl zq36 zq36 zq36 zq36 zq26 rfl rfl zq16 ?_
            refine zc_end (fun _ => by first | assumption | (repeat (first | exact BOwn.nil _ | refine BOwn.cons zq5 ?_))) zq36 ?_
            (repeat (first | ((with_reducible apply zr_seq)) | ((with_reducible apply zr_region); (try simp only [List.append_eq, List.cons_append, List.nil_append])) | ((with_reducible apply zo_end)) | ((with_reducible apply zs_assign); (exact rfl); (exact rfl)) | ((with_reducible apply zr_cond_t); (exact rfl); (first | assumption | exact rfl)) | ((with_reducible apply zr_retZ); (exact rfl); (repeat (first | exact resD_nil _ _ _ | ((with_reducible apply resD_tmp); (exact rfl)) | ((with_reducible apply resD_cell_agg); (exact rfl); (exact sh_of rfl); (first | assumption | exact St.setH_self _ _ _ | exact Sep.at_ (i := 0) zq35 rfl | exact Sep.at_ (i := 1) zq35 rfl | exact Sep.at_ (i := 2) zq35 rfl | exact Sep.at_ (i := 3) zq35 rfl | exact Sep.at_ (i := 4) zq35 rfl | exact Sep.at_ (i := 5) zq35 rfl | exact Sep.at_ (i := 6) zq35 rfl); (exact rfl)) | ((with_reducible apply resD_cell); (exact rfl); (exact sh_of rfl); (first | assumption | exact St.setH_self _ _ _ | exact Sep.at_ (i := 0) zq35 rfl | exact Sep.at_ (i := 1) zq35 rfl | exact Sep.at_ (i := 2) zq35 rfl | exact Sep.at_ (i := 3) zq35 rfl | exact Sep.at_ (i := 4) zq35 rfl | exact Sep.at_ (i := 5) zq35 rfl | exact Sep.at_ (i := 6) zq35 rfl); (exact rfl)))); (simp only [resOf]))))
            exact KE.mk _ hS.ext hK
          · have hg1 : (!mayL c b) = false := by rw [hml]; rfl
            (repeat (first | ((with_reducible apply zr_seq)) | ((with_reducible apply zr_block)) | ((with_reducible apply zr_skip'))))
            refine zc_begin (m := 17) ([]) [] zq36 rfl ?_
            refine zc_take0 (i := 0) rfl zq36 zq36 zq36 zq36 zq26 rfl rfl (zp_load_refAll rfl zq33 rfl rfl) ?_
            refine zc_take0 (i := 1) rfl zq36 zq36 zq36 zq36 zq26 rfl rfl zq18 ?_
            refine zc_take0 (i := 2) rfl zq36 zq36 zq36 zq36 zq26 rfl rfl (zp_load_ref rfl zq33 rfl rfl) ?_
            refine zc_take0 (i := 3) rfl zq36 zq36 zq36 zq36 zq26 rfl rfl (ZPure0.pure (zp_move rfl rfl)) ?_
            refine zc_take0 (i := 4) rfl zq36 zq36 zq36 zq36 zq26 rfl rfl zq0 ?_
            refine zc_take0 (i := 5) rfl zq36 zq36 zq36 zq36 zq26 rfl rfl (zp_load_refAll rfl zq33 rfl rfl) ?_
            refine zc_one (i := 6) (fun _ => by first | assumption | (repeat (first | exact BOwn.nil _ | refine BOwn.cons zq5 ?_))) zq36 rfl zq26 (zop_callQ rmay_pf cl_51 rfl rfl (by decide) rfl rfl zq17 zq13 ?_)
            refine zc_take0 (i := 7) rfl zq36 zq36 zq36 zq36 zq26 rfl rfl (ZPure0.pure (zp_not rfl rfl)) ?_
            refine zc_take0 (i := 8) rfl zq36 zq36 zq36 zq36 zq26 rfl rfl (ZPure0.pure (zp_move rfl rfl)) ?_
            refine zc_take0 (i := 9) rfl zq36 zq36 zq36 zq36 zq26 rfl rfl zq18 ?_
            refine zc_take0 (i := 10) rfl zq36 zq36 zq36 zq36 zq26 rfl rfl (zp_load_ref rfl zq33 rfl rfl) ?_
            refine zc_take0 (i := 11) rfl zq36 zq36 zq36 zq36 zq26 rfl rfl (ZPure0.pure (zp_move rfl rfl)) ?_
            refine zc_take0 (i := 12) rfl zq36 zq36 zq36 zq36 zq26 rfl rfl zq0 ?_
            refine zc_take0 (i := 13) rfl zq36 zq36 zq36 zq36 zq26 rfl rfl zq18 ?_
            refine zc_take0 (i := 14) rfl zq36 zq36 zq36 zq36 zq26 rfl rfl (zp_load_ref rfl zq33 rfl rfl) ?_
            refine zc_take0 (i := 15) rfl zq36 zq36 zq36 zq36 zq26 rfl rfl (ZPure0.pure (zp_eql rfl rfl rfl)) ?_
            refine zc_take0 (i := 16) rfl zq36 zq36 zq36 zq36 zq26 rfl rfl zq16 ?_
            refine zc_end (fun _ => by first | assumption | (repeat (first | exact BOwn.nil _ | refine BOwn.cons zq5 ?_))) zq36 ?_
            cases h0 : decide (b.1 = 0)
            · (repeat (first | ((with_reducible apply zr_region); (try simp only [List.append_eq, List.cons_append, List.nil_append])) | ((with_reducible apply zo_end)) | ((with_reducible apply zs_move); (exact rfl); (exact rfl)) | ((with_reducible apply zs_assign); (exact rfl); (exact rfl)) | ((with_reducible apply zs_add); (exact rfl); (exact rfl); (exact rfl); (first | (with_reducible assumption) | exact wrap_in64 (by omega) (by omega))) | ((with_reducible apply zr_cond_f); (exact rfl); (first | assumption | exact rfl)) | ((with_reducible apply zr_skipB))))
              exact ⟨m - 1, _, by omega, ⟨i + 1, by omega, rfl, hS, snoc_all hbt hall (by unfold badMsg; rw [h0, hml]; rfl)⟩, zq21, zq21⟩
            · rw [innerG_f2 (any_hit hb (by unfold badMsg; rw [h0]; simp))] at hK
              (repeat (first | ((with_reducible apply zr_seq)) | ((with_reducible apply zr_region); (try simp only [List.append_eq, List.cons_append, List.nil_append])) | ((with_reducible apply zo_end)) | ((with_reducible apply zs_assign); (exact rfl); (exact rfl)) | ((with_reducible apply zr_cond_t); (exact rfl); (first | assumption | exact rfl)) | ((with_reducible apply zr_retZ); (exact rfl); (repeat (first | exact resD_nil _ _ _ | ((with_reducible apply resD_tmp); (exact rfl)) | ((with_reducible apply resD_cell_agg); (exact rfl); (exact sh_of rfl); (first | assumption | exact St.setH_self _ _ _ | exact Sep.at_ (i := 0) zq35 rfl | exact Sep.at_ (i := 1) zq35 rfl | exact Sep.at_ (i := 2) zq35 rfl | exact Sep.at_ (i := 3) zq35 rfl | exact Sep.at_ (i := 4) zq35 rfl | exact Sep.at_ (i := 5) zq35 rfl | exact Sep.at_ (i := 6) zq35 rfl); (exact rfl)) | ((with_reducible apply resD_cell); (exact rfl); (exact sh_of rfl); (first | assumption | exact St.setH_self _ _ _ | exact Sep.at_ (i := 0) zq35 rfl | exact Sep.at_ (i := 1) zq35 rfl | exact Sep.at_ (i := 2) zq35 rfl | exact Sep.at_ (i := 3) zq35 rfl | exact Sep.at_ (i := 4) zq35 rfl | exact Sep.at_ (i := 5) zq35 rfl | exact Sep.at_ (i := 6) zq35 rfl); (exact rfl)))); (simp only [resOf]))))
              exact KE.mk _ hS.ext hK
        · have hi : i = n.msgs.length := by omega
          subst hi
          rw [List.take_length] at hall
          rw [innerG_eq hk0 (any_none hall), ← hr1, ← hr2, ← hr3, ← hr4] at hK
          (repeat (first | ((with_reducible apply zr_seq)) | ((with_reducible apply zr_region); (try simp only [List.append_eq, List.cons_append, List.nil_append])) | ((with_reducible apply zo_end)) | ((with_reducible apply zs_move); (exact rfl); (exact rfl)) | ((with_reducible apply zs_assign); (exact rfl); (exact rfl)) | ((with_reducible apply zs_geq); (exact rfl); (exact rfl); (exact rfl)) | ((with_reducible apply zs_len); (exact rfl); (exact rfl); (exact un_sl rfl)) | (with_reducible refine zr_exit ?_; simp only [Zthen, Zblock, ↓reduceIte]) | ((with_reducible apply zs_field_ref); (exact rfl); (exact rfl); (exact fld_of rfl)) | ((with_reducible apply zs_load_ref); (exact rfl); (exact rfl); (exact sh_of rfl); (exact rfl)) | ((with_reducible apply zs_and); (exact rfl); (exact rfl); (intro hp_; first | exact congrArg some (gd_t hp_) | exact rfl); (exact rfl)) | ((with_reducible apply (zs_h_leq [])); (exact rfl); (first | exact GC.t rfl rfl | exact GC.f rfl rfl | exact GC.gt rfl rfl | exact GC.gf rfl rfl); (exact rfl); (intro hc_; first | exact congrArg some (gd_t hc_) | exact congrArg some (gd_t (band_l hc_)) | exact congrArg some (gd_t (band_l (band_l hc_))) | exact rfl); (intro hc_; first | exact congrArg some (gd_t hc_) | exact congrArg some (gd_t (band_l hc_)) | exact congrArg some (gd_t (band_l (band_l hc_))) | exact rfl)) | ((with_reducible apply (zs_h_eql [])); (exact rfl); (first | exact GC.t rfl rfl | exact GC.f rfl rfl | exact GC.gt rfl rfl | exact GC.gf rfl rfl); (exact rfl); (intro hc_; first | exact congrArg some (gd_t hc_) | exact congrArg some (gd_t (band_l hc_)) | exact congrArg some (gd_t (band_l (band_l hc_))) | exact rfl); (intro hc_; first | exact congrArg some (gd_t hc_) | exact congrArg some (gd_t (band_l hc_)) | exact congrArg some (gd_t (band_l (band_l hc_))) | exact rfl)) | ((with_reducible apply (zs_h_len [])); (exact rfl); (first | exact GC.t rfl rfl | exact GC.f rfl rfl | exact GC.gt rfl rfl | exact GC.gf rfl rfl); (exact rfl); (exact un_sl rfl); (intro hc_; first | exact congrArg some (gd_t hc_) | exact congrArg some (gd_t (band_l hc_)) | exact congrArg some (gd_t (band_l (band_l hc_))) | exact rfl)) | ((with_reducible apply (zs_h_sub [])); (exact rfl); (first | exact GC.t rfl rfl | exact GC.f rfl rfl | exact GC.gt rfl rfl | exact GC.gf rfl rfl); (exact rfl); (intro hc_; first | exact congrArg some (gd_t hc_) | exact congrArg some (gd_t (band_l hc_)) | exact congrArg some (gd_t (band_l (band_l hc_))) | exact rfl); (intro hc_; first | exact congrArg some (gd_t hc_) | exact congrArg some (gd_t (band_l hc_)) | exact congrArg some (gd_t (band_l (band_l hc_))) | exact rfl); (intro _; exact wrap_in64 (by omega) (by omega))) | ((with_reducible apply (zs_h_field_ref [])); (exact rfl); (first | exact GC.t rfl rfl | exact GC.f rfl rfl | exact GC.gt rfl rfl | exact GC.gf rfl rfl); (exact rfl); (intro hc_; first | exact congrArg some (gd_t hc_) | exact congrArg some (gd_t (band_l hc_)) | exact congrArg some (gd_t (band_l (band_l hc_))) | exact rfl); (intro _; exact fld_of rfl)) | ((with_reducible apply (zs_h_load_ref [])); (exact rfl); (first | exact GC.t rfl rfl | exact GC.f rfl rfl | exact GC.gt rfl rfl | exact GC.gf rfl rfl); (exact rfl); (intro hc_; first | exact congrArg some (gd_t hc_) | exact congrArg some (gd_t (band_l hc_)) | exact congrArg some (gd_t (band_l (band_l hc_))) | exact rfl); (intro _; exact sh_of rfl); (intro _; exact rfl)) | ((with_reducible apply zr_retZ); (exact rfl); (repeat (first | exact resD_nil _ _ _ | ((with_reducible apply resD_tmp); (exact rfl)) | ((with_reducible apply resD_cell_agg); (exact rfl); (exact sh_of rfl); (first | assumption | exact St.setH_self _ _ _ | exact Sep.at_ (i := 0) zq35 rfl | exact Sep.at_ (i := 1) zq35 rfl | exact Sep.at_ (i := 2) zq35 rfl | exact Sep.at_ (i := 3) zq35 rfl | exact Sep.at_ (i := 4) zq35 rfl | exact Sep.at_ (i := 5) zq35 rfl | exact Sep.at_ (i := 6) zq35 rfl); (exact rfl)) | ((with_reducible apply resD_cell); (exact rfl); (exact sh_of rfl); (first | assumption | exact St.setH_self _ _ _ | exact Sep.at_ (i := 0) zq35 rfl | exact Sep.at_ (i := 1) zq35 rfl | exact Sep.at_ (i := 2) zq35 rfl | exact Sep.at_ (i := 3) zq35 rfl | exact Sep.at_ (i := 4) zq35 rfl | exact Sep.at_ (i := 5) zq35 rfl | exact Sep.at_ (i := 6) zq35 rfl); (exact rfl)))); (simp only [resOf]))))
          exact KE.mk _ hS.ext hK
    · rw [goodN_l hri hlf] at hK
      (repeat (first | ((with_reducible apply zr_seq)) | ((with_reducible apply zr_region); (try simp only [List.append_eq, List.cons_append, List.nil_append])) | ((with_reducible apply zo_end)) | ((with_reducible apply zs_assign); (exact rfl); (exact rfl)) | ((with_reducible apply zr_cond_t); (exact rfl); (first | assumption | exact rfl)) | ((with_reducible apply zr_block)) | (with_reducible refine zr_exit ?_; simp only [Zthen, Zblock, ↓reduceIte]) | ((with_reducible apply zs_field_ref); (exact rfl); (exact rfl); (exact fld_of rfl)) | ((with_reducible apply zs_load_ref); (exact rfl); (exact rfl); (exact sh_of rfl); (exact rfl))))
      refine zr_loopK [2, 3] (fun m e s' => ∃ i : Nat, m + i = n.vals.length ∧ e = [(6, .v (.int .i64 (i : Nat)))] ∧ Zm.Sep st s' [] ∧ ∀ y ∈ n.vals.take i, longV c y = false) n.vals.length _ zq19 ⟨0, by omega, rfl, hS, by simp⟩ zq21 ?_
      rintro m e s' ⟨i, hm, rfl, hS, hall⟩
      (repeat (first | ((with_reducible apply zr_seq)) | ((with_reducible apply zr_region); (try simp only [List.append_eq, List.cons_append, List.nil_append])) | ((with_reducible apply zo_end)) | ((with_reducible apply zs_move); (exact rfl); (exact rfl)) | ((with_reducible apply zs_lss); (exact rfl); (exact rfl); (exact rfl)) | ((with_reducible apply zs_len); (exact rfl); (exact rfl); (exact un_sl rfl)) | ((with_reducible apply zs_field_ref); (exact rfl); (exact rfl); (exact fld_of rfl)) | ((with_reducible apply zs_load_ref); (exact rfl); (exact rfl); (exact sh_of rfl); (exact rfl))))
      (first | refine zr_cond rfl (fun h2 => ?_) (fun h2 => ?_) | refine zs_split rfl rfl (fun h2 => ?_) (fun h2 => ?_)) <;> have h2' := h2 <;> (try simp only [decide_eq_true_eq, decide_eq_false_iff_not, Bool.and_eq_true, Bool.or_eq_true, Bool.and_eq_false_iff, Bool.or_eq_false_iff, Bool.not_eq_true', Bool.not_eq_false', Bool.not_eq_true, Bool.not_eq_false, Int.not_le, Int.not_lt, Classical.not_not, Decidable.not_not, ne_eq, beq_iff_eq, bne_iff_ne] at h2')
      · have hi : i < n.vals.length := by omega
        obtain ⟨b, hb, hbt, _, hbg⟩ := eltK hi
        (repeat (first | ((with_reducible apply zr_seq)) | ((with_reducible apply zr_block)) | ((with_reducible apply zr_skip'))))
        refine zc_begin (m := 9) ([]) [] zq36 rfl ?_
        refine zc_take0 (i := 0) rfl zq36 zq36 zq36 zq36 zq26 rfl rfl zq18 ?_
        refine zc_take0 (i := 1) rfl zq36 zq36 zq36 zq36 zq26 rfl rfl (zp_load_ref rfl zq33 rfl rfl) ?_
        refine zc_take0 (i := 2) rfl zq36 zq36 zq36 zq36 zq26 rfl rfl (ZPure0.pure (zp_move rfl rfl)) ?_
        refine zc_take0 (i := 3) rfl zq36 zq36 zq36 zq36 zq26 rfl rfl zq0 ?_
        refine zc_take0 (i := 4) rfl zq36 zq36 zq36 zq36 zq26 rfl rfl (zp_load_ref rfl zq33 rfl rfl) ?_
        refine zc_take0 (i := 5) rfl zq36 zq36 zq36 zq36 zq26 rfl rfl zq8 ?_
        refine zc_take0 (i := 6) rfl zq36 zq36 zq36 zq36 zq26 rfl rfl zq18 ?_
        refine zc_take0 (i := 7) rfl zq36 zq36 zq36 zq36 zq26 rfl rfl (zp_load_ref rfl zq33 rfl rfl) ?_
        refine zc_take0 (i := 8) rfl zq36 zq36 zq36 zq36 zq26 rfl rfl (ZPure0.pure (zp_gtr rfl rfl rfl)) ?_
        refine zc_end (fun _ => by first | assumption | (repeat (first | exact BOwn.nil _ | refine BOwn.cons zq5 ?_))) zq36 ?_
        cases hlb : decide (c.valMax < ((b.length : Nat) : Int))
        · (repeat (first | ((with_reducible apply zr_region); (try simp only [List.append_eq, List.cons_append, List.nil_append])) | ((with_reducible apply zo_end)) | ((with_reducible apply zs_move); (exact rfl); (exact rfl)) | ((with_reducible apply zs_assign); (exact rfl); (exact rfl)) | ((with_reducible apply zs_add); (exact rfl); (exact rfl); (exact rfl); (first | (with_reducible assumption) | exact wrap_in64 (by omega) (by omega))) | ((with_reducible apply zr_cond_f); (exact rfl); (first | assumption | exact rfl)) | ((with_reducible apply zr_skipB))))
          exact ⟨m - 1, _, by omega, ⟨i + 1, by omega, rfl, hS, snoc_all hbt hall hlb⟩, zq21, zq21⟩
        · rw [leafG_f (any_hit hb hlb)] at hK
          (repeat (first | ((with_reducible apply zr_seq)) | ((with_reducible apply zr_region); (try simp only [List.append_eq, List.cons_append, List.nil_append])) | ((with_reducible apply zo_end)) | ((with_reducible apply zs_assign); (exact rfl); (exact rfl)) | ((with_reducible apply zr_cond_t); (exact rfl); (first | assumption | exact rfl)) | ((with_reducible apply zr_retZ); (exact rfl); (repeat (first | exact resD_nil _ _ _ | ((with_reducible apply resD_tmp); (exact rfl)) | ((with_reducible apply resD_cell_agg); (exact rfl); (exact sh_of rfl); (first | assumption | exact St.setH_self _ _ _ | exact Sep.at_ (i := 0) zq35 rfl | exact Sep.at_ (i := 1) zq35 rfl | exact Sep.at_ (i := 2) zq35 rfl | exact Sep.at_ (i := 3) zq35 rfl | exact Sep.at_ (i := 4) zq35 rfl | exact Sep.at_ (i := 5) zq35 rfl | exact Sep.at_ (i := 6) zq35 rfl); (exact rfl)) | ((with_reducible apply resD_cell); (exact rfl); (exact sh_of rfl); (first | assumption | exact St.setH_self _ _ _ | exact Sep.at_ (i := 0) zq35 rfl | exact Sep.at_ (i := 1) zq35 rfl | exact Sep.at_ (i := 2) zq35 rfl | exact Sep.at_ (i := 3) zq35 rfl | exact Sep.at_ (i := 4) zq35 rfl | exact Sep.at_ (i := 5) zq35 rfl | exact Sep.at_ (i := 6) zq35 rfl); (exact rfl)))); (simp only [resOf]))))
          exact KE.mk _ hS.ext hK
      · have hi : i = n.vals.length := by omega
        subst hi
        rw [List.take_length] at hall
        rw [leafG_eq (any_none hall), ← hr1, ← hr2, ← hr3, ← hr4] at hK
        (repeat (first | ((with_reducible apply zr_seq)) | ((with_reducible apply zr_region); (try simp only [List.append_eq, List.cons_append, List.nil_append])) | ((with_reducible apply zo_end)) | ((with_reducible apply zs_move); (exact rfl); (exact rfl)) | ((with_reducible apply zs_assign); (exact rfl); (exact rfl)) | ((with_reducible apply zs_leq); (exact rfl); (exact rfl); (exact rfl)) | ((with_reducible apply zs_len); (exact rfl); (exact rfl); (exact un_sl rfl)) | (with_reducible refine zr_exit ?_; simp only [Zthen, Zblock, ↓reduceIte]) | ((with_reducible apply zs_field_ref); (exact rfl); (exact rfl); (exact fld_of rfl)) | ((with_reducible apply zs_load_ref); (exact rfl); (exact rfl); (exact sh_of rfl); (exact rfl)) | ((with_reducible apply zs_and); (exact rfl); (exact rfl); (intro hp_; first | exact congrArg some (gd_t hp_) | exact rfl); (exact rfl)) | ((with_reducible apply (zs_h_eql [])); (exact rfl); (first | exact GC.t rfl rfl | exact GC.f rfl rfl | exact GC.gt rfl rfl | exact GC.gf rfl rfl); (exact rfl); (intro hc_; first | exact congrArg some (gd_t hc_) | exact congrArg some (gd_t (band_l hc_)) | exact congrArg some (gd_t (band_l (band_l hc_))) | exact rfl); (intro hc_; first | exact congrArg some (gd_t hc_) | exact congrArg some (gd_t (band_l hc_)) | exact congrArg some (gd_t (band_l (band_l hc_))) | exact rfl)) | ((with_reducible apply (zs_h_len [])); (exact rfl); (first | exact GC.t rfl rfl | exact GC.f rfl rfl | exact GC.gt rfl rfl | exact GC.gf rfl rfl); (exact rfl); (exact un_sl rfl); (intro hc_; first | exact congrArg some (gd_t hc_) | exact congrArg some (gd_t (band_l hc_)) | exact congrArg some (gd_t (band_l (band_l hc_))) | exact rfl)) | ((with_reducible apply (zs_h_field_ref [])); (exact rfl); (first | exact GC.t rfl rfl | exact GC.f rfl rfl | exact GC.gt rfl rfl | exact GC.gf rfl rfl); (exact rfl); (intro hc_; first | exact congrArg some (gd_t hc_) | exact congrArg some (gd_t (band_l hc_)) | exact congrArg some (gd_t (band_l (band_l hc_))) | exact rfl); (intro _; exact fld_of rfl)) | ((with_reducible apply (zs_h_load_ref [])); (exact rfl); (first | exact GC.t rfl rfl | exact GC.f rfl rfl | exact GC.gt rfl rfl | exact GC.gf rfl rfl); (exact rfl); (intro hc_; first | exact congrArg some (gd_t hc_) | exact congrArg some (gd_t (band_l hc_)) | exact congrArg some (gd_t (band_l (band_l hc_))) | exact rfl); (intro _; exact sh_of rfl); (intro _; exact rfl)) | ((with_reducible apply zr_retZ); (exact rfl); (repeat (first | exact resD_nil _ _ _ | ((with_reducible apply resD_tmp); (exact rfl)) | ((with_reducible apply resD_cell_agg); (exact rfl); (exact sh_of rfl); (first | assumption | exact St.setH_self _ _ _ | exact Sep.at_ (i := 0) zq35 rfl | exact Sep.at_ (i := 1) zq35 rfl | exact Sep.at_ (i := 2) zq35 rfl | exact Sep.at_ (i := 3) zq35 rfl | exact Sep.at_ (i := 4) zq35 rfl | exact Sep.at_ (i := 5) zq35 rfl | exact Sep.at_ (i := 6) zq35 rfl); (exact rfl)) | ((with_reducible apply resD_cell); (exact rfl); (exact sh_of rfl); (first | assumption | exact St.setH_self _ _ _ | exact Sep.at_ (i := 0) zq35 rfl | exact Sep.at_ (i := 1) zq35 rfl | exact Sep.at_ (i := 2) zq35 rfl | exact Sep.at_ (i := 3) zq35 rfl | exact Sep.at_ (i := 4) zq35 rfl | exact Sep.at_ (i := 5) zq35 rfl | exact Sep.at_ (i := 6) zq35 rfl); (exact rfl)))); (simp only [resOf]))))
        exact KE.mk _ hS.ext hK
end Go.Proofs.ZtLe
