/- A part of the proof of StshKeeps: walks of the functions that it reaches. No condition. -/
import Derived.Test.YtaiegjgiodlpaaaDoorZtP6
import Derived.Test.YtaiegjgiodlpaaaDoorZmAuto
namespace Go.Proofs.ZtLe
open Go.RowKit Go.Proofs Go.Proofs.Zm
set_option linter.unusedVariables false
set_option linter.unusedSimpArgs false
set_option maxHeartbeats 20000000
set_option maxRecDepth 100000
attribute [local irreducible] ZWp ZOps ZPure ZPure0 ZVal ZOp SoundF

/-! ### a bucket's cells are taken out -/
theorem take_snd : SoundF Tryd.prog 7 fun args st K => ∃ (s id : Nat) (v : StshV) (k : Int), args = [.ptr s 0, .v (.int .i64 k)] ∧ IsStsh st s id v ∧
    K (.tup [.agg (cellD ((findC v.cs k).getD (0, 0, []))), .v (.bool (findC v.cs k).isSome)]) (st.setN id (some (mapI .i64 (stD (delC v.cs k))))) :=
  stake_snd.le fun args st K ⟨s, id, v, k, h1, h2, hK⟩ => ⟨s, id, v, k, h1, h2, fun d hd => ⟨_, hK, hd⟩⟩
def evL (n leaf level z : Int) : List Int → List CellV → List CellV → List CellV × List CellV
  | [], cs, out => (out, cs)
  | k :: r, cs, out => if (out.length : Int) < z ∧ level ≤ meetL n ((findC cs k).getD zc).2.1 leaf then evL n leaf level z r (delC cs k) (out ++ [(findC cs k).getD zc]) else evL n leaf level z r cs out
def evOut (n leaf level z : Int) (cs : List CellV) : List CellV × List CellV := bif atOk n leaf level then evL n leaf level z (sortI (cs.map (·.1))) cs [] else ([], cs)
theorem delC_sub (k : Int) : ∀ (cs : List CellV) (c : CellV), c ∈ delC cs k → c ∈ cs
  | [], c, h => h
  | d :: r, c, h => by
    unfold delC at h
    split at h
    · exact .tail _ h
    · rcases List.mem_cons.1 h with rfl | h
      · exact .head _
      · exact .tail _ (delC_sub k r c h)
theorem delC_length (k : Int) : ∀ cs : List CellV, (delC cs k).length ≤ cs.length
  | [] => Nat.le_refl _
  | d :: r => by
    unfold delC
    split
    · simp
    · simp only [List.length_cons]; have := delC_length k r; omega
theorem delC_nd (k : Int) : ∀ cs : List CellV, cs.Pairwise (fun a b => a.1 ≠ b.1) → (delC cs k).Pairwise (fun a b => a.1 ≠ b.1)
  | [], h => h
  | d :: r, h => by
    unfold delC
    split
    · exact (List.pairwise_cons.1 h).2
    · obtain ⟨h1, h2⟩ := List.pairwise_cons.1 h
      exact List.pairwise_cons.2 ⟨fun c hc => h1 c (delC_sub k r c hc), delC_nd k r h2⟩
theorem StOk.del {v : StshV} (h : StOk v) (k : Int) : StOk { v with cs := delC v.cs k } :=
  ⟨h.m0, h.m1, h.s0, h.s1, by have h1 := h.room; have h2 := delC_length k v.cs; show ((delC v.cs k).length : Int) ≤ v.most; omega, fun c hc => h.all c (delC_sub k _ c hc), delC_nd k _ h.nd⟩
theorem cell_leaf : fieldInt Tryd.prog 29 1 1 := ⟨_, _, .i64, Tryd.underlying29, rfl, rfl, un_int rfl⟩
theorem evict0_snd : SoundF Tryd.prog 14 fun args st K => ∃ (s id : Nat) (v : StshV) (n leaf level z : Int), args = [.ptr s 0, .v (.int .i64 n), .v (.int .i64 leaf), .v (.int .i64 level), .v (.int .i64 z)] ∧ IsStsh st s id v ∧ StOk v ∧
    ∀ d, DLe d (.row (cellR (evOut n leaf level z v.cs).1) 3 0) → K d (st.setN id (some (mapI .i64 (stD (evOut n leaf level z v.cs).2)))) := by
  refine sound_ofA Tryd.func14 rfl Tryd.results14 ?_
  rintro w0 args st K ⟨s, id, v, n, leaf, level, z, rfl, ⟨hH, hN⟩, hok, hK⟩
  rw [Tryd.ntmps14]; refine ⟨by simp, ?_⟩
  have hS := Sep.nil st
  obtain ⟨zi, hzi, hzz⟩ := cell_zero
  (repeat (first | ((with_reducible apply zr_seq)) | ((with_reducible apply zr_region); (try simp only [List.append_eq, List.cons_append, List.nil_append])) | ((with_reducible apply zo_end)) | ((with_reducible apply zs_move); (exact rfl); (exact rfl)) | ((with_reducible apply zs_assign); (exact rfl); (exact rfl)) | ((with_reducible apply zs_extract); (exact rfl); (exact rfl); (exact rfl)) | ((with_reducible apply zs_not); (exact rfl); (exact rfl)) | ((with_reducible apply (zs_callQ at_pf cl_32)); (exact rfl); (exact rfl); ((repeat (first | exact DLes.nil | (apply DLes.cons; first | exact DLe.refl _ | exact DLe.nilB | exact DLe.nilR | exact DLe.nilI)))); (first | exact trivial | assumption | ((repeat' (with_reducible refine And.intro ?_ ?_)) <;> first | assumption | omega | exact trivial | (simp; done) | (simp; omega))))))
  cases hat : atOk n leaf level with
  | false =>
    (repeat (first | ((with_reducible apply zr_seq)) | ((with_reducible apply zr_region); (try simp only [List.append_eq, List.cons_append, List.nil_append])) | ((with_reducible apply zo_end)) | ((with_reducible apply zs_assign); (exact rfl); (exact rfl)) | ((with_reducible apply zr_cond_t); (exact rfl); (first | assumption | exact rfl)) | ((with_reducible apply zr_retZ); (exact rfl); (repeat (first | exact resD_nil _ _ _ | ((with_reducible apply resD_tmp); (exact rfl)) | ((with_reducible apply resD_cell_agg); (exact rfl); (exact sh_of rfl); (first | assumption | exact St.setH_self _ _ _ | exact Sep.at_ (i := 0) zq17 rfl | exact Sep.at_ (i := 1) zq17 rfl | exact Sep.at_ (i := 2) zq17 rfl | exact Sep.at_ (i := 3) zq17 rfl | exact Sep.at_ (i := 4) zq17 rfl | exact Sep.at_ (i := 5) zq17 rfl | exact Sep.at_ (i := 6) zq17 rfl); (exact rfl)) | ((with_reducible apply resD_cell); (exact rfl); (exact sh_of rfl); (first | assumption | exact St.setH_self _ _ _ | exact Sep.at_ (i := 0) zq17 rfl | exact Sep.at_ (i := 1) zq17 rfl | exact Sep.at_ (i := 2) zq17 rfl | exact Sep.at_ (i := 3) zq17 rfl | exact Sep.at_ (i := 4) zq17 rfl | exact Sep.at_ (i := 5) zq17 rfl | exact Sep.at_ (i := 6) zq17 rfl); (exact rfl)))); (simp only [resOf]))))
    have e : evOut n leaf level z v.cs = ([], v.cs) := by unfold evOut; rw [hat]; rfl
    rw [e] at hK
    exact KE.mk _ (Ext.setSame hN) (hK _ (DLe.nil 3))
  | true =>
    have e : evOut n leaf level z v.cs = evL n leaf level z (sortI (v.cs.map (·.1))) v.cs [] := by unfold evOut; rw [hat]; rfl
    rw [e] at hK
    (repeat (first | ((with_reducible apply zr_seq)) | ((with_reducible apply zr_region); (try simp only [List.append_eq, List.cons_append, List.nil_append])) | ((with_reducible apply zs_move); (exact rfl); (exact rfl)) | ((with_reducible apply zr_cond_f); (exact rfl); (first | assumption | exact rfl)) | ((with_reducible apply zr_skip')) | ((with_reducible apply zs_call ids_snd cl_16); (exact rfl); (exact rfl); ((try simp only [List.append_nil]); first | exact Ups.nilrow 1 (Ups.nilrow 1 (Ups.nilrow 1 (Ups.refl _))) | exact Ups.nilrow 1 (Ups.nilrow 1 (Ups.refl _)) | exact Ups.same (Ups.nilrow 1 (Ups.nilrow 1 (Ups.refl _))) | exact Ups.nilrow 1 (Ups.same (Ups.nilrow 1 (Ups.refl _))) | exact Ups.nilrow 1 (Ups.refl _) | exact Ups.same (Ups.nilrow 1 (Ups.refl _)) | exact Ups.same (Ups.same (Ups.nilrow 1 (Ups.refl _))) | exact Ups.refl _))))
    refine ⟨s, id, v, rfl, ⟨hH, hN⟩, hok, ?_⟩
    generalize hids : sortI (v.cs.map (·.1)) = ids
    rw [hids] at hK
    have hil : ids.length ≤ 10000 := by
      rw [← hids]; unfold sortI; rw [List.length_mergeSort, List.length_map]; have := hok.room; have := hok.m1; omega
    (repeat (first | ((with_reducible apply zo_end)) | ((with_reducible apply zs_move); (exact rfl); (exact rfl)) | ((with_reducible apply zs_len); (exact rfl); (exact rfl); (exact un_sl rfl)) | ((with_reducible apply zr_block))))
    refine zr_snil 11 rfl ?_
    refine zr_loopK [0, 1, 2, 3, 4, 28, 29] (fun m e s' => ∃ (i : Nat) (cs out : List CellV) (o : Option Nat) (c : Nat) (full : List D), m + i = ids.length ∧ e = [(11, orow o out.length c), (30, .v (.int .i64 (i : Nat)))] ∧
        Zm.Sep (st.setN id (some (mapI .i64 (stD cs)))) s' [(o, full)] ∧ GRow o full 3 out.length c (cellR out).flatten ∧ StOk { v with cs := cs } ∧ out.length ≤ i ∧ evL n leaf level z ids v.cs [] = evL n leaf level z (ids.drop i) cs out) ids.length _ zq8
      ⟨0, v.cs, [], none, 0, [], by simp, rfl, by rw [setN_self_eq hN]; exact (Sep.nil st).addNone [], GRow.empty 3, hok, by simp, rfl⟩ zq10 ?_
    rintro m e s' ⟨i, cs, out, o, c, full, hm, rfl, hS, hg, hok2, hoi, hev⟩
    (repeat (first | ((with_reducible apply zr_seq)) | ((with_reducible apply zr_region); (try simp only [List.append_eq, List.cons_append, List.nil_append])) | ((with_reducible apply zo_end)) | ((with_reducible apply zs_lss); (exact rfl); (exact rfl); (exact rfl))))
    (first | refine zr_cond rfl (fun h => ?_) (fun h => ?_) | refine zs_split rfl rfl (fun h => ?_) (fun h => ?_)) <;> have h' := h <;> (try simp only [decide_eq_true_eq, decide_eq_false_iff_not, Bool.and_eq_true, Bool.or_eq_true, Bool.and_eq_false_iff, Bool.or_eq_false_iff, Bool.not_eq_true', Bool.not_eq_false', Bool.not_eq_true, Bool.not_eq_false, Int.not_le, Int.not_lt, Classical.not_not, Decidable.not_not, ne_eq, beq_iff_eq, bne_iff_ne] at h')
    · rw [intR_length] at h'
      have hlt : i < ids.length := by omega
      have hdr : ids.drop i = ids.getD i 0 :: ids.drop (i + 1) := by rw [List.drop_eq_getElem_cons hlt, getD_in hlt]
      have hkg : (intR ids).getD i [] = [.v (.int .i64 (ids.getD i 0))] := by unfold intR; rw [List.getD_eq_getElem?_getD, List.getElem?_map, List.getElem?_eq_getElem hlt, getD_in hlt]; rfl
      have hrl : (intR ids).length = ids.length := intR_length ids
      rw [hdr] at hev
      generalize ids.getD i 0 = k at *
      (repeat (first | ((with_reducible apply zr_seq)) | ((with_reducible apply zr_region); (try simp only [List.append_eq, List.cons_append, List.nil_append])) | ((with_reducible apply zo_end)) | ((with_reducible apply zs_move); (exact rfl); (exact rfl)) | ((with_reducible apply zs_assign); (exact rfl); (exact rfl)) | ((with_reducible apply zs_lss); (exact rfl); (exact rfl); (exact rfl)) | ((with_reducible apply zr_block)) | ((with_reducible apply zr_skip')) | ((with_reducible apply zs_load_ref); (exact rfl); (exact rfl); (exact sh_of rfl); (exact rfl)) | ((with_reducible apply zs_idxE); (exact rfl); (exact rfl); (exact rfl); (exact un_sl rfl); (exact ii_of rfl); (first | omega | (simp only [List.length_map, List.length_take, List.length_drop, List.length_append, List.length_cons, List.length_nil, List.length_replicate, rowR_length, intR_length, msgR_length, pairR_length, cellR_length]; omega) | decide); (first | omega | (simp only [List.length_map, List.length_take, List.length_drop, List.length_append, List.length_cons, List.length_nil, List.length_replicate, rowR_length, intR_length, msgR_length, pairR_length, cellR_length]; omega) | decide); (first | (with_reducible exact Int.toNat_natCast _) | (simp only [Int.reduceToNat]; exact rfl) | exact rfl); (assumption)) | ((with_reducible apply zs_len_orow); (exact rfl); (exact rfl); (first | exact GRow.nil0 zq17); (exact un_sl rfl))))
      (try rw [hkg])
      skip
      by_cases hz : (out.length : Int) < z
      · have g : decide ((out.length : Int) < z) = true := decide_eq_true hz
        rw [g]
        have hH2 := hS.ext.H s _ hH
        have hN2 := hS.ext.N id _ (setN_self st id _)
        (repeat (first | ((with_reducible apply zs_yes); (exact rfl); (exact rfl); (first | assumption | exact rfl)) | ((with_reducible apply zs_move); (exact rfl); (exact rfl)) | ((with_reducible apply zs_nilCheck_ptr); (exact rfl); (exact rfl)) | ((with_reducible apply zs_field_ptr); (exact rfl); (exact rfl); (exact fld_of rfl)) | ((with_reducible apply zs_load_ptr); (exact rfl); (exact rfl); (exact sh_of rfl); (first | assumption | exact St.setH_self _ _ _ | exact Sep.at_ (i := 0) zq17 rfl | exact Sep.at_ (i := 1) zq17 rfl | exact Sep.at_ (i := 2) zq17 rfl | exact Sep.at_ (i := 3) zq17 rfl | exact Sep.at_ (i := 4) zq17 rfl | exact Sep.at_ (i := 5) zq17 rfl | exact Sep.at_ (i := 6) zq17 rfl); (first | exact rfl | assumption))))
        (try ((with_reducible apply zs_yes); exact rfl; exact rfl; (first | assumption | exact rfl))); refine zo_val rfl rfl (by decide) (zv_look rfl un_cells (un_int rfl) hzi hzz zeroCell1 rfl rfl hN2 ?_)
        rw [lk_stD]
        generalize hcv : (findC cs k).getD (0, 0, []) = cv
        (try ((with_reducible apply zs_yes); exact rfl; exact rfl; (first | assumption | exact rfl))); refine zo_pure0 rfl rfl (by decide) (zp_field rfl cell_leaf rfl rfl) ?_
        (repeat (first | ((with_reducible apply zo_end)) | ((with_reducible apply zs_yes); (exact rfl); (exact rfl); (first | assumption | exact rfl)) | ((with_reducible apply zs_move); (exact rfl); (exact rfl)) | ((with_reducible apply zs_geq); (exact rfl); (exact rfl); (exact rfl)) | ((with_reducible apply zs_pick_t); (exact rfl); (exact rfl); (first | assumption | exact rfl); (exact rfl)) | ((with_reducible apply (zs_callQ meet_pf cl_33)); (exact rfl); (exact rfl); ((repeat (first | exact DLes.nil | (apply DLes.cons; first | exact DLe.refl _ | exact DLe.nilB | exact DLe.nilR | exact DLe.nilI)))); (first | exact trivial | assumption | ((repeat' (with_reducible refine And.intro ?_ ?_)) <;> first | assumption | omega | exact trivial | (simp; done) | (simp; omega))))))
        by_cases hle : level ≤ meetL n cv.2.1 leaf
        · have g2 : decide (level ≤ meetL n cv.2.1 leaf) = true := decide_eq_true hle
          rw [g2]
          (repeat (first | ((with_reducible apply zr_seq)) | ((with_reducible apply zr_region); (try simp only [List.append_eq, List.cons_append, List.nil_append])) | ((with_reducible apply zs_move); (exact rfl); (exact rfl)) | ((with_reducible apply zr_cond_t); (exact rfl); (first | assumption | exact rfl)) | ((with_reducible apply zs_call take_snd cl_7); (exact rfl); (exact rfl); ((try simp only [List.append_nil]); first | exact Ups.nilrow 1 (Ups.nilrow 1 (Ups.nilrow 1 (Ups.refl _))) | exact Ups.nilrow 1 (Ups.nilrow 1 (Ups.refl _)) | exact Ups.same (Ups.nilrow 1 (Ups.nilrow 1 (Ups.refl _))) | exact Ups.nilrow 1 (Ups.same (Ups.nilrow 1 (Ups.refl _))) | exact Ups.nilrow 1 (Ups.refl _) | exact Ups.same (Ups.nilrow 1 (Ups.refl _)) | exact Ups.same (Ups.same (Ups.nilrow 1 (Ups.refl _))) | exact Ups.refl _))))
          refine ⟨s, id, { v with cs := cs }, k, rfl, ⟨hH2, hN2⟩, ?_⟩
          rw [hcv]
          have hS0 := hS.reN id (some (mapI .i64 (stD (delC cs k))))
          rw [setN_setN] at hS0
          replace hS := hS0
          clear hH2 hN2 hS0
          (repeat (first | ((with_reducible apply zr_region); (try simp only [List.append_eq, List.cons_append, List.nil_append])) | ((with_reducible apply zo_end)) | ((with_reducible apply zo_endB)) | ((with_reducible apply zs_move); (exact rfl); (exact rfl)) | ((with_reducible apply zs_assign); (exact rfl); (exact rfl)) | ((with_reducible apply zs_extract); (exact rfl); (exact rfl); (exact rfl)) | ((with_reducible apply zs_add); (exact rfl); (exact rfl); (exact rfl); (first | (with_reducible assumption) | exact wrap_in64 (by omega) (by omega))) | ((with_reducible apply zs_load_refAll); (exact rfl); (exact rfl); (exact sh_of rfl); (exact rfl)) | ((with_reducible apply (zs_allocRef (t := 16))); (exact el_of rfl); (simp [oneD, Value.oneCell']); (exact sh_of rfl); (exact rfl); (intro _; exact rfl); (exact rfl); (simp [cellsD, oneD, Value.oneCell', msgD, nodeD, pairD, cellD])) | ((with_reducible apply (zs_lit (t := 60) [.tmp 59])); (exact rfl); (exact rfl); (exact rfl); (exact rfl); (exact un_sl rfl); (exact el_of rfl); (simp only [List.map_cons, List.map_nil, cellsD]; exact rfl); ((repeat (first | exact lit_nil | (apply lit_cons; exact rfl; (repeat (first | exact one_nil | (apply one_cons; (first | exact rfl | exact one_orow _ _ _)))))))); (decide)) | ((with_reducible apply (zs_sapp (i := 0))); (exact rfl); (exact rfl); (exact rfl); (exact un_sl rfl); (exact el_of rfl); (simp [oneD, Value.oneCell']); (assumption); (exact rfl); (assumption); ((try simp only [List.length_map, List.length_cons, List.length_nil, List.length_take, List.length_drop, List.length_append, rowR_length, intR_length, msgR_length, pairR_length, cellR_length]); omega); (intro o1 c1 f1 sS hS hg); (try simp only [List.set_cons_zero, List.set_cons_succ] at hS))))
          refine ⟨m - 1, _, by omega, ⟨i + 1, delC cs k, out ++ [cv], o1, c1, f1, by omega, rfl, hS, ?_, hok2.del k, by simp; omega, ?_⟩, ?_, zq10⟩
          · rw [List.length_append, show (cellR (out ++ [cv])).flatten = (cellR out).flatten ++ [cellD cv].flatten by simp [cellR]]; exact hg
          · rw [hev]; exact (if_pos ⟨hz, by rw [← hcv] at hle; exact hle⟩).trans (by rw [← hcv]; rfl)
          · rw [List.length_append]; exact zq10
        · have g2 : decide (level ≤ meetL n cv.2.1 leaf) = false := decide_eq_false hle
          rw [g2]
          (repeat (first | ((with_reducible apply zr_region); (try simp only [List.append_eq, List.cons_append, List.nil_append])) | ((with_reducible apply zo_end)) | ((with_reducible apply zs_move); (exact rfl); (exact rfl)) | ((with_reducible apply zs_add); (exact rfl); (exact rfl); (exact rfl); (first | (with_reducible assumption) | exact wrap_in64 (by omega) (by omega))) | ((with_reducible apply zr_cond_f); (exact rfl); (first | assumption | exact rfl)) | ((with_reducible apply zr_skipB))))
          exact ⟨m - 1, _, by omega, ⟨i + 1, cs, out, o, c, full, by omega, rfl, hS, hg, hok2, by omega, by rw [hev]; exact if_neg (fun q => hle (by rw [← hcv]; exact q.2))⟩, zq10, zq10⟩
      · have g : decide ((out.length : Int) < z) = false := decide_eq_false hz
        rw [g]
        (repeat (first | ((with_reducible apply zr_region); (try simp only [List.append_eq, List.cons_append, List.nil_append])) | ((with_reducible apply zo_end)) | ((with_reducible apply zs_noU); (exact rfl); (exact rfl); (first | assumption | exact rfl | (simp only [Bool.not_false, Bool.not_true]; assumption)); (exact rfl)) | ((with_reducible apply zs_move); (exact rfl); (exact rfl)) | ((with_reducible apply zs_pick_f); (exact rfl); (exact rfl); (first | assumption | exact rfl); (exact rfl)) | ((with_reducible apply zs_add); (exact rfl); (exact rfl); (exact rfl); (first | (with_reducible assumption) | exact wrap_in64 (by omega) (by omega))) | ((with_reducible apply zr_cond_f); (exact rfl); (first | assumption | exact rfl)) | ((with_reducible apply zr_skipB))))
        exact ⟨m - 1, _, by omega, ⟨i + 1, cs, out, o, c, full, by omega, rfl, hS, hg, hok2, by omega, by rw [hev]; exact if_neg (fun q => hz q.1)⟩, zq10, zq10⟩
    · rw [intR_length] at h'
      have hie : i = ids.length := by omega
      rw [hie, List.drop_length] at hev
      rw [hev] at hK
      (repeat (first | ((with_reducible apply zr_seq)) | ((with_reducible apply zr_region); (try simp only [List.append_eq, List.cons_append, List.nil_append])) | ((with_reducible apply zo_end)) | ((with_reducible apply zs_move); (exact rfl); (exact rfl)) | ((with_reducible apply zs_assign); (exact rfl); (exact rfl)) | (with_reducible refine zr_exit ?_; simp only [Zthen, Zblock, ↓reduceIte])))
      refine zr_sfreeze 0 [10] (cellR out) (by decide) hS rfl hg rfl (cellR_three _) (by (repeat (first | (with_reducible exact fzo_nil) | ((with_reducible apply fzo_row); (exact rfl)) | ((with_reducible apply fzo_same); (exact rfl)) | (with_reducible apply fzo_skip)))) fun s2 hS2 => ?_
      (repeat (first | ((with_reducible apply zr_retZ); (exact rfl); (repeat (first | exact resD_nil _ _ _ | ((with_reducible apply resD_tmp); (exact rfl)) | ((with_reducible apply resD_cell_agg); (exact rfl); (exact sh_of rfl); (first | assumption | exact St.setH_self _ _ _ | exact Sep.at_ (i := 0) zq17 rfl | exact Sep.at_ (i := 1) zq17 rfl | exact Sep.at_ (i := 2) zq17 rfl | exact Sep.at_ (i := 3) zq17 rfl | exact Sep.at_ (i := 4) zq17 rfl | exact Sep.at_ (i := 5) zq17 rfl | exact Sep.at_ (i := 6) zq17 rfl); (exact rfl)) | ((with_reducible apply resD_cell); (exact rfl); (exact sh_of rfl); (first | assumption | exact St.setH_self _ _ _ | exact Sep.at_ (i := 0) zq17 rfl | exact Sep.at_ (i := 1) zq17 rfl | exact Sep.at_ (i := 2) zq17 rfl | exact Sep.at_ (i := 3) zq17 rfl | exact Sep.at_ (i := 4) zq17 rfl | exact Sep.at_ (i := 5) zq17 rfl | exact Sep.at_ (i := 6) zq17 rfl); (exact rfl)))); (simp only [resOf]))))
      exact KE.mk _ hS2.ext (hK _ (.refl _))
theorem evict_snd : SoundF Tryd.prog 14 fun args st K => ∃ (s id : Nat) (v : StshV) (n leaf level z : Int), args = [.ptr s 0, .v (.int .i64 n), .v (.int .i64 leaf), .v (.int .i64 level), .v (.int .i64 z)] ∧ IsStsh st s id v ∧ StOk v ∧
    K (.row (cellR (evOut n leaf level z v.cs).1) 3 0) (st.setN id (some (mapI .i64 (stD (evOut n leaf level z v.cs).2)))) :=
  evict0_snd.le fun args st K ⟨s, id, v, n, leaf, level, z, h1, h2, h3, hK⟩ => ⟨s, id, v, n, leaf, level, z, h1, h2, h3, fun d hd => ⟨_, hK, hd⟩⟩
end Go.Proofs.ZtLe
namespace Go.Proofs.ZtLe
open Go.RowKit Go.Proofs Go.Proofs.Zm
set_option linter.unusedVariables false
set_option linter.unusedSimpArgs false
set_option maxHeartbeats 20000000
set_option maxRecDepth 100000
attribute [local irreducible] ZWp ZOps ZPure ZPure0 ZVal ZOp SoundF

/-! ### a stash's State -/
theorem put_own : SoundF Tryd.prog 29 fun args st K => ∃ xs, (∃ (n k : Int), args = [.v (.int .u64 n), .v (.int .i64 k)] ∧ 0 ≤ n ∧ n < 18446744073709551616 ∧ 0 ≤ k ∧ k ≤ 8 ∧ xs = bytesD (put n k.toNat)) ∧ ownR st 1 xs K := by
  refine sound_ofA Tryd.func29 rfl Tryd.results29 ?_
  rintro w0 args st K ⟨xs, ⟨n, k, rfl, h0, h1, h2, h3, rfl⟩, hK⟩
  rw [Tryd.ntmps29]; refine ⟨by simp, ?_⟩
  have hS := Sep.nil st
  have g1 : decide (k < 0) = false := decide_eq_false (by omega)
  have g3 : decide (8 < k) = false := decide_eq_false (by omega)
  (repeat (first | ((with_reducible apply zr_seq)) | ((with_reducible apply zr_region); (try simp only [List.append_eq, List.cons_append, List.nil_append])) | ((with_reducible apply zo_end)) | ((with_reducible apply zs_yes); (exact rfl); (exact rfl); (first | assumption | exact rfl)) | ((with_reducible apply zs_move); (exact rfl); (exact rfl)) | ((with_reducible apply zs_assign); (exact rfl); (exact rfl)) | ((with_reducible apply zs_lss); (exact rfl); (exact rfl); (exact rfl)) | ((with_reducible apply zs_gtr); (exact rfl); (exact rfl); (exact rfl)) | ((with_reducible apply zs_pick_f); (exact rfl); (exact rfl); (first | assumption | exact rfl); (exact rfl)) | ((with_reducible apply zr_cond_f); (exact rfl); (first | assumption | exact rfl)) | ((with_reducible apply zr_block)) | ((with_reducible apply zr_skip'))))
  refine zr_snil 5 rfl ?_
  refine zr_loopK [12] (fun m e s => ∃ (i : Nat) (o : Option Nat) (c : Nat) (full : List D), m + i = k.toNat ∧ e = [(0, .v (.int .u64 (n / 256 ^ i))), (5, orow o i c), (13, .v (.int .i64 (i : Nat)))] ∧ Zm.Sep st s [(o, full)] ∧ GRow o full 1 i c (bytesD (put n i)).flatten) k.toNat _ zq8
    ⟨0, none, 0, [], by omega, rfl, hS.addNone [], by rw [show (bytesD (put n 0)).flatten = [] by simp [put, bytesD]]; exact GRow.empty 1⟩ (sub_cons (by rw [Int.pow_zero, Int.ediv_one]; rfl) zq10) ?_
  rintro m e s ⟨i, o, c, full, hm, rfl, hS, hg⟩
  (repeat (first | ((with_reducible apply zr_seq)) | ((with_reducible apply zr_region); (try simp only [List.append_eq, List.cons_append, List.nil_append])) | ((with_reducible apply zo_end)) | ((with_reducible apply zs_lss); (exact rfl); (exact rfl); (exact rfl))))
  (first | refine zr_cond rfl (fun h => ?_) (fun h => ?_) | refine zs_split rfl rfl (fun h => ?_) (fun h => ?_)) <;> have h' := h <;> (try simp only [decide_eq_true_eq, decide_eq_false_iff_not, Bool.and_eq_true, Bool.or_eq_true, Bool.and_eq_false_iff, Bool.or_eq_false_iff, Bool.not_eq_true', Bool.not_eq_false', Bool.not_eq_true, Bool.not_eq_false, Int.not_le, Int.not_lt, Classical.not_not, Decidable.not_not, ne_eq, beq_iff_eq, bne_iff_ne] at h')
  · (repeat (first | ((with_reducible apply zr_seq)) | ((with_reducible apply zr_region); (try simp only [List.append_eq, List.cons_append, List.nil_append])) | ((with_reducible apply zs_move); (exact rfl); (exact rfl)) | ((with_reducible apply zr_block)) | ((with_reducible apply zr_skip'))))
    (try ((with_reducible apply zs_yes); exact rfl; exact rfl; (first | assumption | exact rfl))); refine zo_pure0 rfl rfl (by decide) (zp_conv rfl rfl (by exact un_int rfl) (by exact un_int rfl) (wrap_u8 _)) ?_
    (repeat (first | ((with_reducible apply zr_region); (try simp only [List.append_eq, List.cons_append, List.nil_append])) | ((with_reducible apply zo_end)) | ((with_reducible apply zo_endB)) | ((with_reducible apply zs_move); (exact rfl); (exact rfl)) | ((with_reducible apply zs_assign); (exact rfl); (exact rfl)) | ((with_reducible apply zs_add); (exact rfl); (exact rfl); (exact rfl); (first | (with_reducible assumption) | exact wrap_in64 (by omega) (by omega))) | ((with_reducible apply (zs_shr (p := 256))); (exact rfl); (exact rfl); (decide); (exact rfl); (decide)) | ((with_reducible apply (zs_lit (t := 18) [.tmp 17])); (exact rfl); (exact rfl); (exact rfl); (exact rfl); (exact un_sl rfl); (exact el_of rfl); (simp only [List.map_cons, List.map_nil, cellsD]; exact rfl); ((repeat (first | exact lit_nil | (apply lit_cons; exact rfl; (repeat (first | exact one_nil | (apply one_cons; (first | exact rfl | exact one_orow _ _ _)))))))); (decide)) | ((with_reducible apply (zs_sapp (i := 0))); (exact rfl); (exact rfl); (exact rfl); (exact un_sl rfl); (exact el_of rfl); (simp [oneD, Value.oneCell']); (assumption); (exact rfl); (assumption); ((try simp only [List.length_map, List.length_cons, List.length_nil, List.length_take, List.length_drop, List.length_append, rowR_length, intR_length, msgR_length, pairR_length, cellR_length]); omega); (intro o1 c1 f1 sS hS hg); (try simp only [List.set_cons_zero, List.set_cons_succ] at hS))))
    have e1 : n / 256 ^ i / 256 = n / 256 ^ (i + 1) := by rw [Int.pow_succ, Int.ediv_ediv_of_nonneg (Int.pow_nonneg (by decide))]
    rw [e1]
    refine ⟨m - 1, _, by omega, ⟨i + 1, o1, c1, f1, by omega, rfl, hS, ?_⟩, zq10, zq10⟩
    rw [byte1, ← List.flatten_append, ← bytesD_append, show put n i ++ [UInt8.ofNat (n / 256 ^ i % 256).toNat] = put n (i + 1) by simp [put]] at hg
    exact hg
  · have hi : i = k.toNat := by omega
    subst hi
    (repeat (first | ((with_reducible apply zr_seq)) | ((with_reducible apply zr_region); (try simp only [List.append_eq, List.cons_append, List.nil_append])) | ((with_reducible apply zo_end)) | ((with_reducible apply zs_move); (exact rfl); (exact rfl)) | ((with_reducible apply zs_assign); (exact rfl); (exact rfl)) | (with_reducible refine zr_exit ?_; simp only [Zthen, Zblock, ↓reduceIte]) | ((with_reducible apply zr_retZ); (exact rfl); (repeat (first | exact resD_nil _ _ _ | ((with_reducible apply resD_tmp); (exact rfl)) | ((with_reducible apply resD_cell_agg); (exact rfl); (exact sh_of rfl); (first | assumption | exact St.setH_self _ _ _ | exact Sep.at_ (i := 0) zq17 rfl | exact Sep.at_ (i := 1) zq17 rfl | exact Sep.at_ (i := 2) zq17 rfl | exact Sep.at_ (i := 3) zq17 rfl | exact Sep.at_ (i := 4) zq17 rfl | exact Sep.at_ (i := 5) zq17 rfl | exact Sep.at_ (i := 6) zq17 rfl); (exact rfl)) | ((with_reducible apply resD_cell); (exact rfl); (exact sh_of rfl); (first | assumption | exact St.setH_self _ _ _ | exact Sep.at_ (i := 0) zq17 rfl | exact Sep.at_ (i := 1) zq17 rfl | exact Sep.at_ (i := 2) zq17 rfl | exact Sep.at_ (i := 3) zq17 rfl | exact Sep.at_ (i := 4) zq17 rfl | exact Sep.at_ (i := 5) zq17 rfl | exact Sep.at_ (i := 6) zq17 rfl); (exact rfl)))); (simp only [resOf]))))
    exact KE.mk _ (Ext.refl _) (by have := hK o c full s hS; rw [bytesD_length, put_length] at this; exact this hg)
theorem findC_some {k : Int} : ∀ {cs : List CellV}, k ∈ cs.map (·.1) → ∃ c ∈ cs, findC cs k = some c ∧ c.1 = k
  | [], h => by cases h
  | d :: r, h => by
    unfold findC
    by_cases e : d.1 = k
    · rw [if_pos e]; exact ⟨d, .head _, rfl, e⟩
    · rw [if_neg e]
      rcases List.mem_cons.1 h with rfl | h
      · exact absurd rfl e
      · obtain ⟨c, h1, h2, h3⟩ := findC_some (cs := r) h
        exact ⟨c, .tail _ h1, h2, h3⟩
def cellsAt (cs : List CellV) (ids : List Int) : List CellV := ids.map fun k => (findC cs k).getD zc
def sortC (cs : List CellV) : List CellV := cellsAt cs (sortI (cs.map (·.1)))
theorem sortI_mem {l : List Int} {k : Int} : k ∈ sortI l ↔ k ∈ l := (List.mergeSort_perm l leI).mem_iff
theorem sortI_length (l : List Int) : (sortI l).length = l.length := List.length_mergeSort l
theorem cellsAt_ok {v : StshV} (h : StOk v) {ids : List Int} (hi : ∀ k ∈ ids, k ∈ v.cs.map (·.1)) : ∀ c ∈ cellsAt v.cs ids, okC c v.size = true := fun c hc => by
  obtain ⟨k, hk, rfl⟩ := List.mem_map.1 hc
  obtain ⟨d, h1, h2, _⟩ := findC_some (hi k hk)
  rw [h2]; exact h.all d h1
theorem bytesC_len {c : CellV} {size : Int} (h : okC c size = true) : ((bytesC c).length : Int) = 8 + size := by
  have := okC_bounds h
  unfold bytesC
  simp only [List.length_append, pb4]
  omega
theorem flat_len {size : Int} (h0 : 0 ≤ size) : ∀ {l : List CellV}, (∀ c ∈ l, okC c size = true) → ((l.flatMap bytesC).length : Int) = l.length * (8 + size)
  | [], _ => by simp
  | c :: r, h => by
    rw [List.flatMap_cons, List.length_append, List.length_cons, Int.natCast_add, bytesC_len (h c (.head _)), flat_len h0 (fun d hd => h d (.tail _ hd)), Int.natCast_succ, Int.add_mul, Int.one_mul, Int.add_comm]
def stHead (v : StshV) : List UInt8 := put v.cs.length 4 ++ (sortC v.cs).flatMap bytesC
def stB (v : StshV) : List UInt8 := stHead v ++ List.replicate ((4 + v.most * (8 + v.size)).toNat - (stHead v).length) 0
theorem stHead_len {v : StshV} (h : StOk v) : ((stHead v).length : Int) = 4 + v.cs.length * (8 + v.size) := by
  unfold stHead sortC
  rw [List.length_append, put_length, Int.natCast_add, flat_len h.s0 (cellsAt_ok h fun k hk => sortI_mem.1 hk)]
  unfold cellsAt
  rw [List.length_map, sortI_length, List.length_map]; rfl
theorem cellsAt_len {v : StshV} (h : StOk v) {ids : List Int} (hi : ∀ k ∈ ids, k ∈ v.cs.map (·.1)) (hl : ids.length ≤ 10000) : (put v.cs.length 4 ++ (cellsAt v.cs ids).flatMap bytesC).length ≤ 4 + 10000 * 60008 := by
  have h1 := flat_len h.s0 (cellsAt_ok h hi)
  rw [List.length_append, put_length]
  have h2 : (cellsAt v.cs ids).length = ids.length := by unfold cellsAt; rw [List.length_map]
  rw [h2] at h1
  have h3 : (ids.length : Int) * (8 + v.size) ≤ 10000 * 60008 := Int.mul_le_mul (by omega) (by have := h.s1; omega) (by have := h.s0; omega) (by omega)
  omega
theorem stHead_le {v : StshV} (h : StOk v) : ((stHead v).length : Int) ≤ 4 + v.most * (8 + v.size) := by
  rw [stHead_len h]
  have := Int.mul_le_mul_of_nonneg_right h.room (show 0 ≤ 8 + v.size by have := h.s0; omega)
  omega
theorem stLong {v : StshV} (h : StOk v) : 0 ≤ v.most * (8 + v.size) ∧ v.most * (8 + v.size) ≤ 10000 * 60008 :=
  ⟨Int.mul_nonneg h.m0 (by have := h.s0; omega), Int.mul_le_mul h.m1 (by have := h.s1; omega) (by have := h.s0; omega) (by omega)⟩
theorem bytes2_snd : SoundF Tryd.prog 30 fun args st K => ∃ (c : CellV), args = [.agg (cellD c)] ∧ 0 ≤ c.1 ∧ c.1 ≤ 9223372036854775807 ∧ 0 ≤ c.2.1 ∧ c.2.1 ≤ 9223372036854775807 ∧ c.2.2.length ≤ 70368744177664 ∧ K (.row (bytesD (bytesC c)) 1 0) st := bytes_snd
theorem sstate_snd : SoundF Tryd.prog 10 fun args st K => ∃ (s id : Nat) (v : StshV), args = [.ptr s 0] ∧ IsStsh st s id v ∧ StOk v ∧ K (.row (bytesD (stB v)) 1 0) st := by
  refine sound_ofA Tryd.func10 rfl Tryd.results10 ?_
  rintro w0 args st K ⟨s, id, v, rfl, ⟨hH, hN⟩, hok, hK⟩
  rw [Tryd.ntmps10]; refine ⟨by simp, ?_⟩
  have hS := Sep.nil st
  obtain ⟨zi, hzi, hzz⟩ := cell_zero
  (repeat (first | ((with_reducible apply zr_seq)) | ((with_reducible apply zr_region); (try simp only [List.append_eq, List.cons_append, List.nil_append])) | ((with_reducible apply zo_end)) | ((with_reducible apply zs_move); (exact rfl); (exact rfl)) | ((with_reducible apply zs_assign); (exact rfl); (exact rfl)) | ((with_reducible apply zs_nilCheck_ptr); (exact rfl); (exact rfl)) | ((with_reducible apply zs_field_ptr); (exact rfl); (exact rfl); (exact fld_of rfl)) | ((with_reducible apply zs_load_ptr); (exact rfl); (exact rfl); (exact sh_of rfl); (first | assumption | exact St.setH_self _ _ _ | exact Sep.at_ (i := 0) zq17 rfl | exact Sep.at_ (i := 1) zq17 rfl | exact Sep.at_ (i := 2) zq17 rfl | exact Sep.at_ (i := 3) zq17 rfl | exact Sep.at_ (i := 4) zq17 rfl | exact Sep.at_ (i := 5) zq17 rfl | exact Sep.at_ (i := 6) zq17 rfl); (first | exact rfl | assumption))))
  (try ((with_reducible apply zs_yes); exact rfl; exact rfl; (first | assumption | exact rfl))); refine zo_val rfl rfl (by decide) (zv_mapLen rfl un_cells rfl hN ?_)
  rw [mapI_len, stD_len]
  have hrm := hok.room
  have hm1 := hok.m1
  (repeat (first | ((with_reducible apply zs_conv); (exact rfl); (exact rfl); (exact un_int rfl); (exact un_int rfl); (first | first | (with_reducible assumption) | exact wrap_in64 (by omega) (by omega) | exact wrap_inU64 (by omega) (by omega))) | ((with_reducible apply zs_call put_own cl_29); (exact rfl); (exact rfl); ((try simp only [List.append_nil]); first | exact Ups.nilrow 1 (Ups.nilrow 1 (Ups.nilrow 1 (Ups.refl _))) | exact Ups.nilrow 1 (Ups.nilrow 1 (Ups.refl _)) | exact Ups.same (Ups.nilrow 1 (Ups.nilrow 1 (Ups.refl _))) | exact Ups.nilrow 1 (Ups.same (Ups.nilrow 1 (Ups.refl _))) | exact Ups.nilrow 1 (Ups.refl _) | exact Ups.same (Ups.nilrow 1 (Ups.refl _)) | exact Ups.same (Ups.same (Ups.nilrow 1 (Ups.refl _))) | exact Ups.refl _))))
  refine ⟨_, ⟨_, _, rfl, by omega, by omega, by omega, by omega, rfl⟩, fun o c f s' hS hg => ?_⟩
  rw [show ((4 : Int).toNat) = 4 from rfl] at hg ⊢
  (repeat (first | ((with_reducible apply zr_seq)) | ((with_reducible apply zr_region); (try simp only [List.append_eq, List.cons_append, List.nil_append])) | ((with_reducible apply zo_end)) | ((with_reducible apply zs_move); (exact rfl); (exact rfl)) | ((with_reducible apply zs_assign); (exact rfl); (exact rfl)) | ((with_reducible apply zs_call ids_snd cl_16); (exact rfl); (exact rfl); ((try simp only [List.append_nil]); first | exact Ups.nilrow 1 (Ups.nilrow 1 (Ups.nilrow 1 (Ups.refl _))) | exact Ups.nilrow 1 (Ups.nilrow 1 (Ups.refl _)) | exact Ups.same (Ups.nilrow 1 (Ups.nilrow 1 (Ups.refl _))) | exact Ups.nilrow 1 (Ups.same (Ups.nilrow 1 (Ups.refl _))) | exact Ups.nilrow 1 (Ups.refl _) | exact Ups.same (Ups.nilrow 1 (Ups.refl _)) | exact Ups.same (Ups.same (Ups.nilrow 1 (Ups.refl _))) | exact Ups.refl _))))
  refine ⟨s, id, v, rfl, ⟨hS.ext.H s _ hH, hS.ext.N id _ hN⟩, hok, ?_⟩
  have hidm : ∀ k ∈ sortI (v.cs.map (·.1)), k ∈ v.cs.map (·.1) := fun k hk => sortI_mem.1 hk
  have hil : (sortI (v.cs.map (·.1))).length = v.cs.length := by rw [sortI_length, List.length_map]
  have hst : stB v = (put v.cs.length 4 ++ (cellsAt v.cs (sortI (v.cs.map (·.1)))).flatMap bytesC) ++ List.replicate ((4 + v.most * (8 + v.size)).toNat - (stHead v).length) 0 := rfl
  have hsh : (stHead v) = put v.cs.length 4 ++ (cellsAt v.cs (sortI (v.cs.map (·.1)))).flatMap bytesC := rfl
  generalize sortI (v.cs.map (·.1)) = ids at *
  have hil2 : (intR ids).length = ids.length := intR_length ids
  (repeat (first | ((with_reducible apply zo_end)) | ((with_reducible apply zs_move); (exact rfl); (exact rfl)) | ((with_reducible apply zs_len); (exact rfl); (exact rfl); (exact un_sl rfl)) | ((with_reducible apply zr_block))))
  have hg0 : GRow o f 1 (put v.cs.length 4 ++ (cellsAt v.cs (ids.take 0)).flatMap bytesC).length c (bytesD (put v.cs.length 4 ++ (cellsAt v.cs (ids.take 0)).flatMap bytesC)).flatten := by
    simpa [cellsAt] using hg
  have hs0 := hok.s0
  have hs1 := hok.s1
  refine zr_loopK [0, 14, 15] (fun m e s' => ∃ (i : Nat) (o : Option Nat) (c : Nat) (full : List D), m + i = ids.length ∧ e = [(3, orow o (put v.cs.length 4 ++ (cellsAt v.cs (ids.take i)).flatMap bytesC).length c), (16, .v (.int .i64 (i : Nat)))] ∧
      Zm.Sep st s' [(o, full)] ∧ GRow o full 1 (put v.cs.length 4 ++ (cellsAt v.cs (ids.take i)).flatMap bytesC).length c (bytesD (put v.cs.length 4 ++ (cellsAt v.cs (ids.take i)).flatMap bytesC)).flatten) ids.length _ zq8
    ⟨0, _, _, _, by simp, rfl, hS, hg0⟩ (sub_cons (by simp [zlook, cellsAt]) zq10) ?_
  rintro m e s' ⟨i, o, c, full, hm, rfl, hS, hg⟩
  (repeat (first | ((with_reducible apply zr_seq)) | ((with_reducible apply zr_region); (try simp only [List.append_eq, List.cons_append, List.nil_append])) | ((with_reducible apply zo_end)) | ((with_reducible apply zs_lss); (exact rfl); (exact rfl); (exact rfl))))
  (first | refine zr_cond rfl (fun h => ?_) (fun h => ?_) | refine zs_split rfl rfl (fun h => ?_) (fun h => ?_)) <;> have h' := h <;> (try simp only [decide_eq_true_eq, decide_eq_false_iff_not, Bool.and_eq_true, Bool.or_eq_true, Bool.and_eq_false_iff, Bool.or_eq_false_iff, Bool.not_eq_true', Bool.not_eq_false', Bool.not_eq_true, Bool.not_eq_false, Int.not_le, Int.not_lt, Classical.not_not, Decidable.not_not, ne_eq, beq_iff_eq, bne_iff_ne] at h')
  · have hlt : i < ids.length := by omega
    have hkg : (intR ids).getD i [] = [.v (.int .i64 (ids.getD i 0))] := by unfold intR; rw [List.getD_eq_getElem?_getD, List.getElem?_map, List.getElem?_eq_getElem hlt, getD_in hlt]; rfl
    have hki : ids.getD i 0 ∈ v.cs.map (·.1) := hidm _ (by rw [getD_in hlt]; exact List.getElem_mem hlt)
    have hca : cellsAt v.cs (ids.take (i + 1)) = cellsAt v.cs (ids.take i) ++ [(findC v.cs (ids.getD i 0)).getD zc] := by
      rw [List.take_succ_eq_append_getElem hlt, getD_in hlt]; unfold cellsAt; rw [List.map_append]; rfl
    generalize ids.getD i 0 = k at *
    have hH2 := hS.ext.H s _ hH
    have hN2 := hS.ext.N id _ hN
    (repeat (first | ((with_reducible apply zr_seq)) | ((with_reducible apply zr_region); (try simp only [List.append_eq, List.cons_append, List.nil_append])) | ((with_reducible apply zo_end)) | ((with_reducible apply zs_move); (exact rfl); (exact rfl)) | ((with_reducible apply zs_assign); (exact rfl); (exact rfl)) | ((with_reducible apply zr_block)) | ((with_reducible apply zr_skip')) | ((with_reducible apply zs_nilCheck_ptr); (exact rfl); (exact rfl)) | ((with_reducible apply zs_field_ptr); (exact rfl); (exact rfl); (exact fld_of rfl)) | ((with_reducible apply zs_load_ref); (exact rfl); (exact rfl); (exact sh_of rfl); (exact rfl)) | ((with_reducible apply zs_load_ptr); (exact rfl); (exact rfl); (exact sh_of rfl); (first | assumption | exact St.setH_self _ _ _ | exact Sep.at_ (i := 0) zq17 rfl | exact Sep.at_ (i := 1) zq17 rfl | exact Sep.at_ (i := 2) zq17 rfl | exact Sep.at_ (i := 3) zq17 rfl | exact Sep.at_ (i := 4) zq17 rfl | exact Sep.at_ (i := 5) zq17 rfl | exact Sep.at_ (i := 6) zq17 rfl); (first | exact rfl | assumption)) | ((with_reducible apply zs_idxE); (exact rfl); (exact rfl); (exact rfl); (exact un_sl rfl); (exact ii_of rfl); (first | omega | (simp only [List.length_map, List.length_take, List.length_drop, List.length_append, List.length_cons, List.length_nil, List.length_replicate, rowR_length, intR_length, msgR_length, pairR_length, cellR_length]; omega) | decide); (first | omega | (simp only [List.length_map, List.length_take, List.length_drop, List.length_append, List.length_cons, List.length_nil, List.length_replicate, rowR_length, intR_length, msgR_length, pairR_length, cellR_length]; omega) | decide); (first | (with_reducible exact Int.toNat_natCast _) | (simp only [Int.reduceToNat]; exact rfl) | exact rfl); (assumption))))
    (try rw [hkg])
    skip
    (try ((with_reducible apply zs_yes); exact rfl; exact rfl; (first | assumption | exact rfl))); refine zo_val rfl rfl (by decide) (zv_look rfl un_cells (un_int rfl) hzi hzz zeroCell1 rfl rfl hN2 ?_)
    rw [lk_stD]
    obtain ⟨cv, hcm, hcf, hck⟩ := findC_some hki
    rw [hcf] at hca ⊢
    simp only [Option.getD_some] at hca ⊢
    have hco := okC_bounds (hok.all cv hcm)
    have hbc := bytesC_len (hok.all cv hcm)
    have hbd : (bytesD (bytesC cv)).length = (bytesC cv).length := bytesD_length _
    have hAb := cellsAt_len hok (ids := ids.take i) (fun q hq => hidm q (List.mem_of_mem_take hq)) (by rw [List.length_take]; omega)
    have hA1 : put v.cs.length 4 ++ (cellsAt v.cs (ids.take (i + 1))).flatMap bytesC = (put v.cs.length 4 ++ (cellsAt v.cs (ids.take i)).flatMap bytesC) ++ bytesC cv := by rw [hca, List.flatMap_append]; simp
    have hA2 : (put v.cs.length 4 ++ (cellsAt v.cs (ids.take (i + 1))).flatMap bytesC).length = (put v.cs.length 4 ++ (cellsAt v.cs (ids.take i)).flatMap bytesC).length + (bytesD (bytesC cv)).length := by rw [hA1, hbd]; exact List.length_append
    (repeat (first | ((with_reducible apply zs_call bytes2_snd cl_30); (exact rfl); (exact rfl); ((try simp only [List.append_nil]); first | exact Ups.nilrow 1 (Ups.nilrow 1 (Ups.nilrow 1 (Ups.refl _))) | exact Ups.nilrow 1 (Ups.nilrow 1 (Ups.refl _)) | exact Ups.same (Ups.nilrow 1 (Ups.nilrow 1 (Ups.refl _))) | exact Ups.nilrow 1 (Ups.same (Ups.nilrow 1 (Ups.refl _))) | exact Ups.nilrow 1 (Ups.refl _) | exact Ups.same (Ups.nilrow 1 (Ups.refl _)) | exact Ups.same (Ups.same (Ups.nilrow 1 (Ups.refl _))) | exact Ups.refl _))))
    refine ⟨cv, rfl, by omega, by omega, by omega, by omega, by omega, ?_⟩
    refine (show ZOps _ _ _ _ _ _ _ _ from ?_)
    generalize put v.cs.length 4 ++ (cellsAt v.cs (ids.take i)).flatMap bytesC = A at *
    (repeat (first | ((with_reducible apply zr_region); (try simp only [List.append_eq, List.cons_append, List.nil_append])) | ((with_reducible apply zo_end)) | ((with_reducible apply zo_endB)) | ((with_reducible apply zs_move); (exact rfl); (exact rfl)) | ((with_reducible apply zs_assign); (exact rfl); (exact rfl)) | ((with_reducible apply zs_add); (exact rfl); (exact rfl); (exact rfl); (first | (with_reducible assumption) | exact wrap_in64 (by omega) (by omega))) | ((with_reducible apply (zs_sapp (i := 0))); (exact rfl); (exact rfl); (exact rfl); (exact un_sl rfl); (exact el_of rfl); (simp [oneD, Value.oneCell']); (assumption); (exact rfl); (assumption); ((try simp only [List.length_map, List.length_cons, List.length_nil, List.length_take, List.length_drop, List.length_append, rowR_length, intR_length, msgR_length, pairR_length, cellR_length]); omega); (intro o1 c1 f1 sS hS hg); (try simp only [List.set_cons_zero, List.set_cons_succ] at hS))))
    rw [← List.flatten_append, ← bytesD_append, ← hA1, ← hA2] at hg
    rw [← hA2]
    exact ⟨m - 1, _, by omega, ⟨i + 1, _, _, _, by omega, rfl, hS, hg⟩, zq10, zq10⟩
  · have hi : i = ids.length := by omega
    subst hi
    rw [List.take_length, ← hsh] at hg ⊢
    rw [← hsh] at hst
    have hH2 := hS.ext.H s _ hH
    have hN2 := hS.ext.N id _ hN
    have hsl := stLong hok
    have hhl := stHead_le hok
    (repeat (first | ((with_reducible apply zr_seq)) | ((with_reducible apply zr_region); (try simp only [List.append_eq, List.cons_append, List.nil_append])) | ((with_reducible apply zs_move); (exact rfl); (exact rfl)) | (with_reducible refine zr_exit ?_; simp only [Zthen, Zblock, ↓reduceIte]) | ((with_reducible apply zs_call slong_snd cl_31); (exact rfl); (exact rfl); ((try simp only [List.append_nil]); first | exact Ups.nilrow 1 (Ups.nilrow 1 (Ups.nilrow 1 (Ups.refl _))) | exact Ups.nilrow 1 (Ups.nilrow 1 (Ups.refl _)) | exact Ups.same (Ups.nilrow 1 (Ups.nilrow 1 (Ups.refl _))) | exact Ups.nilrow 1 (Ups.same (Ups.nilrow 1 (Ups.refl _))) | exact Ups.nilrow 1 (Ups.refl _) | exact Ups.same (Ups.nilrow 1 (Ups.refl _)) | exact Ups.same (Ups.same (Ups.nilrow 1 (Ups.refl _))) | exact Ups.refl _))))
    refine ⟨s, id, v, rfl, ⟨hH2, hN2⟩, hok, ?_⟩
    (repeat (first | ((with_reducible apply zs_move); (exact rfl); (exact rfl)) | ((with_reducible apply zs_sub); (exact rfl); (exact rfl); (exact rfl); (first | (with_reducible assumption) | exact wrap_in64 (by omega) (by omega))) | ((with_reducible apply zs_len_orow); (exact rfl); (exact rfl); (first | exact GRow.nil0 zq17); (exact un_sl rfl))))
    obtain ⟨z, hz⟩ : ∃ z : Nat, z = (4 + v.most * (8 + v.size)).toNat - (stHead v).length := ⟨_, rfl⟩
    have hz2 : 4 + v.most * (8 + v.size) - ((stHead v).length : Nat) = (z : Nat) := by omega
    rw [hz2]
    rw [← hz] at hst
    (try ((with_reducible apply zs_yes); exact rfl; exact rfl; (first | assumption | exact rfl))); refine zo_val rfl rfl (by decide) (zv_sappZ (e := 5) (i := 0) rfl (by exact el_of rfl) (by simp [oneD, Value.oneCell']) zq16 (by exact un_int rfl) rfl hS rfl hg rfl (by omega) fun o1 c1 f1 s1 hS1 hg1 => ?_)
    have hcl : (stB v).length = (stHead v).length + z := by rw [hst, List.length_append, List.length_replicate]
    have hcz : (bytesD (stHead v)).flatten ++ (List.replicate z [D.v (.int .u8 0)]).flatten = (bytesD (stB v)).flatten := by
      rw [hst, bytesD_append, List.flatten_append, zeros]
    rw [hcz, ← hcl] at hg1
    rw [← hcl]
    (repeat (first | ((with_reducible apply zo_end)) | ((with_reducible apply zs_assign); (exact rfl); (exact rfl))))
    refine zr_sfreeze 0 [2] (bytesD (stB v)) (by decide) hS1 rfl hg1 rfl (bytesD_one _) (by (repeat (first | (with_reducible exact fzo_nil) | ((with_reducible apply fzo_row); (exact rfl)) | ((with_reducible apply fzo_same); (exact rfl)) | (with_reducible apply fzo_skip)))) fun s2 hS2 => ?_
    (repeat (first | ((with_reducible apply zr_retZ); (exact rfl); (repeat (first | exact resD_nil _ _ _ | ((with_reducible apply resD_tmp); (exact rfl)) | ((with_reducible apply resD_cell_agg); (exact rfl); (exact sh_of rfl); (first | assumption | exact St.setH_self _ _ _ | exact Sep.at_ (i := 0) zq17 rfl | exact Sep.at_ (i := 1) zq17 rfl | exact Sep.at_ (i := 2) zq17 rfl | exact Sep.at_ (i := 3) zq17 rfl | exact Sep.at_ (i := 4) zq17 rfl | exact Sep.at_ (i := 5) zq17 rfl | exact Sep.at_ (i := 6) zq17 rfl); (exact rfl)) | ((with_reducible apply resD_cell); (exact rfl); (exact sh_of rfl); (first | assumption | exact St.setH_self _ _ _ | exact Sep.at_ (i := 0) zq17 rfl | exact Sep.at_ (i := 1) zq17 rfl | exact Sep.at_ (i := 2) zq17 rfl | exact Sep.at_ (i := 3) zq17 rfl | exact Sep.at_ (i := 4) zq17 rfl | exact Sep.at_ (i := 5) zq17 rfl | exact Sep.at_ (i := 6) zq17 rfl); (exact rfl)))); (simp only [resOf]))))
    exact KE.mk _ hS2.ext hK
end Go.Proofs.ZtLe
