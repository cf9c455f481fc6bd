/- A part of the proof of InneChunks: walks of the functions that it reaches. No condition. -/
import Derived.Test.YtjkocjjcdjjdiaaZtInS
import Derived.Test.YtjkocjjcdjjdiaaZtInK
import Derived.Test.YtjkocjjcdjjdiaaZmP2
import Derived.Test.YtjkocjjcdjjdiaaZmAuto
namespace Go.Proofs.ZtLe
open Go.RowKit Go.Proofs Go.Proofs.Zm
set_option linter.unusedVariables false
set_option linter.unusedSimpArgs false
set_option maxHeartbeats 20000000
set_option maxRecDepth 100000
attribute [local irreducible] ZWp ZOps ZPure ZPure0 ZVal ZOp SoundF

/-! ### InneChunks -/
theorem mine_rest (keys : List Bs) (k most : Nat) (l : List MsgV) (j : Nat) : ((mineL keys k most l).2.filter fun m => wayL keys m.2.1 == j) = if j = k then (l.filter fun m => wayL keys m.2.1 == k).drop most else l.filter fun m => wayL keys m.2.1 == j := by
  induction l using rev_ind with
  | h0 => simp [mineL]
  | h1 l m ih =>
    have hl := mine_take keys k most l
    rw [mineL_app]
    by_cases hw : wayL keys m.2.1 = k
    · by_cases hlt : (mineL keys k most l).1.length < most
      · rw [if_pos ⟨hlt, hw⟩]
        simp only
        rw [ih]
        rw [hl, List.length_take] at hlt
        by_cases hj : j = k
        · rw [if_pos hj, if_pos hj, List.filter_append]
          rw [List.drop_eq_nil_of_le (by omega), List.drop_eq_nil_of_le (by simp [hw]; omega)]
        · rw [if_neg hj, if_neg hj, List.filter_append]
          have : ¬ k = j := fun e => hj e.symm
          simp [hw, this]
      · rw [if_neg (fun h => hlt h.1)]
        simp only
        rw [List.filter_append, ih]
        rw [hl, List.length_take] at hlt
        by_cases hj : j = k
        · subst hj
          rw [if_pos rfl, if_pos rfl, List.filter_append, List.drop_append_of_le_length (by omega)]
        · rw [if_neg hj, if_neg hj, List.filter_append]
    · rw [if_neg (fun h => hw h.2)]
      simp only
      rw [List.filter_append, ih]
      by_cases hj : j = k
      · subst hj
        simp [hw]
      · rw [if_neg hj, if_neg hj, List.filter_append]
theorem mine_mem2 {keys : List Bs} {k most : Nat} {l : List MsgV} {y : MsgV} : y ∈ (mineL keys k most l).2 → y ∈ l := by
  refine rev_ind (p := fun l => y ∈ (mineL keys k most l).2 → y ∈ l) (fun h => by simp [mineL] at h) (fun l m ih h => ?_) l
  rw [mineL_app] at h
  split at h
  · exact List.mem_append_left _ (ih h)
  · rcases List.mem_append.1 h with h | h
    · exact List.mem_append_left _ (ih h)
    · exact List.mem_append_right _ h
/-- A kid's messages that were taken. -/
structure OM where
  ob : Option Nat
  full : List D
  c : Nat
  ms : List MsgV
def OM.or (w : OM) : OR := ⟨w.ob, w.full, 3, w.c, msgR w.ms⟩
def OM.blk (w : OM) : Option Nat × List D := (w.ob, w.full)
/-- What was taken, and what is left, of a node's messages. -/
structure TakenM (n : NodeV) (M : List MsgV) (W : List OM) : Prop where
  len : W.length = n.keys.length + 1
  ok : ∀ w ∈ W, w.or.ok
  inv : ∀ (k : Nat) (w : OM), W[k]? = some w → w.ms ++ (M.filter fun m => wayL n.keys m.2.1 == k) = n.msgs.filter fun m => wayL n.keys m.2.1 == k
theorem TakenM.start (n : NodeV) : TakenM n n.msgs (List.replicate (n.keys.length + 1) ⟨none, [], 0, []⟩) := by
  refine ⟨by simp, fun w hw => ?_, fun k w hw => ?_⟩
  · obtain ⟨_, rfl⟩ := List.mem_replicate.1 hw
    exact ⟨by decide, GRow.empty 3, by simp [OM.or, msgR]⟩
  · obtain ⟨_, rfl⟩ := List.mem_replicate.1 (List.mem_of_getElem? hw)
    rfl
theorem TakenM.step {n : NodeV} {M : List MsgV} {W : List OM} {k most : Nat} {w w' : OM} (h : TakenM n M W) (hw : W[k]? = some w) (hok : w'.or.ok) (hms : w'.ms = w.ms ++ (mineL n.keys k most M).1) : TakenM n (mineL n.keys k most M).2 (W.set k w') := by
  obtain ⟨h1, h2, h3⟩ := h
  refine ⟨by simpa using h1, fun v hv => ?_, fun j v hv => ?_⟩
  · rcases List.mem_or_eq_of_mem_set hv with hv | rfl
    · exact h2 v hv
    · exact hok
  · rw [mine_rest]
    rw [List.getElem?_set] at hv
    by_cases hj : k = j
    · subst hj
      rw [if_pos rfl] at hv
      split at hv
      · cases hv
        rw [if_pos rfl, hms, mine_take, List.append_assoc, List.take_append_drop]
        exact h3 k w hw
      · cases hv
    · rw [if_neg hj] at hv
      rw [if_neg (fun e => hj e.symm)]
      exact h3 j v hv
theorem own_set (W : List OM) (k : Nat) (w' : OM) (h : k < W.length) : (W.map fun w => w.or.own).take k ++ [w'.or.own] ++ (W.map fun w => w.or.own).drop (k + 1) = (W.set k w').map fun w => w.or.own := by
  rw [List.map_set, List.set_eq_take_append_cons_drop, if_pos (by simpa using h)]; simp
theorem rep_own (K : Nat) : (List.replicate K [D.v (.slice none 0 0)]).flatten = (List.replicate K (⟨none, [], 0, []⟩ : OM)).map fun w => w.or.own := by
  rw [List.flatten_replicate_singleton, List.map_replicate]; rfl
theorem rep_blk (K : Nat) : List.replicate K ((none, []) : Option Nat × List D) = (List.replicate K (⟨none, [], 0, []⟩ : OM)).map OM.blk := by
  rw [List.map_replicate]; rfl
theorem or_flat (W : List OM) : ((W.map OM.or).map fun r => [r.own]).flatten = W.map fun w => w.or.own := by
  induction W with
  | nil => rfl
  | cons w W ih => simp only [List.map_cons, List.flatten_cons, ih]; rfl
theorem or_get {W : List OM} {k : Nat} {w : OM} (h : W[k]? = some w) : ((W.map OM.or).map fun r => [r.row]).getD k [] = [.row (msgR w.ms) 3 0] := by
  rw [List.getD_eq_getElem?_getD, List.getElem?_map, List.getElem?_map, h]; rfl
def chunksSpec : ZSpec := fun args st K => ∃ (c : CfgV) (l : List Int) (most : Int) (tl : Nat), args = [.agg (cfgD c), .row (intR l) 1 tl, .v (.int .i64 most)] ∧ l.length ≤ 17592186044000 ∧ K (.v (.bool true)) st
theorem chunks_snd : SoundF Try.prog 5 chunksSpec := by
  refine sound_ofA Try.func5 rfl Try.results5 ?_
  rintro w0 args st K ⟨c, l, most, tl, rfl, hl, hK⟩
  rw [Try.ntmps5]; refine ⟨by simp, ?_⟩
  refine zr_as 1 (.row (intR l) 1 0) rfl zq3 ?_
  have hS := Sep.nil st
  (repeat (first | ((with_reducible apply zr_seq)) | ((with_reducible apply zr_region); (try simp only [List.append_eq, List.cons_append, List.nil_append])) | ((with_reducible apply zo_end)) | ((with_reducible apply zs_assign); (exact rfl); (exact rfl)) | ((with_reducible apply zs_load_ptrA); (exact rfl); (exact rfl); (exact sh_of rfl); (first | assumption | exact St.setH_self _ _ _ | exact Sep.at_ (i := 0) (by assumption) rfl | exact Sep.at_ (i := 1) (by assumption) rfl | exact Sep.at_ (i := 2) (by assumption) rfl | exact Sep.at_ (i := 3) (by assumption) rfl | exact Sep.at_ (i := 4) (by assumption) rfl | exact Sep.at_ (i := 5) (by assumption) rfl | exact Sep.at_ (i := 6) (by assumption) rfl); (first | exact Nat.le_of_ble_eq_true rfl | exact (by decide) | (focus (simp [cellsD]; done))); (first | (simp only [cells_orow, cD_int, cD_bool, cD_float, cD_nil, cD_ptr0, cD_str, cD_row, cD_mrow, cD_ptr, cD_ref, cD_fn, cD_agg, List.take_zero, List.take_succ_cons, List.take_nil, List.drop_succ_cons, List.drop_zero, List.drop_nil, List.nil_append, List.cons_append, List.append_nil, Nat.zero_add, Nat.reduceAdd]; exact rfl) | exact rfl)) | ((with_reducible apply (zs_sbox (t := 3))); (exact rfl); (exact rfl); (focus (simp [cellsD, oneD, Value.oneCell', msgD, nodeD, pairD, cfgD]; done)); (assumption); (intro a3 sS hS))))
  (try ((with_reducible apply zs_yes); exact rfl; exact rfl; (first | assumption | exact rfl))); refine zo_callU (small_ps (c := c) trivial) Try.func11 (by kernel_rfl) rfl rfl rfl rfl (by decide) rfl rfl zq2 ?_; refine ⟨rfl, fun d hd => ?_⟩; obtain ⟨c, rfl, hc⟩ := hd
  (repeat (first | ((with_reducible apply (zs_sstore (i := 0))); (exact rfl); (exact rfl); (exact sh_of rfl); (assumption); (exact rfl); (first | exact rfl | (simp [cells_orow])); ((try rw [cells_orow]); (repeat (first | exact one_nil | (apply one_cons; (first | exact rfl | exact one_orow _ _ _))))); (first | exact Nat.le_of_ble_eq_true rfl | omega | (focus (simp [cellsD, msgD, nodeD, pairD, cfgD]; done))); (first | (simp only [cells_orow, cD_int, cD_bool, cD_float, cD_nil, cD_ptr0, cD_str, cD_row, cD_mrow, cD_ptr, cD_ref, cD_fn, cD_agg, List.take_zero, List.take_succ_cons, List.take_nil, List.drop_succ_cons, List.drop_zero, List.drop_nil, List.nil_append, List.cons_append, List.append_nil, Nat.zero_add, Nat.reduceAdd]; exact rfl) | exact rfl); (intro sS hS); (try simp only [List.set_cons_zero, List.set_cons_succ] at hS)) | ((with_reducible apply zr_seq)) | ((with_reducible apply zr_region); (try simp only [List.append_eq, List.cons_append, List.nil_append])) | ((with_reducible apply zo_end)) | ((with_reducible apply zs_move); (exact rfl); (exact rfl)) | ((with_reducible apply zs_load_ptrA); (exact rfl); (exact rfl); (exact sh_of rfl); (first | assumption | exact St.setH_self _ _ _ | exact Sep.at_ (i := 0) (by assumption) rfl | exact Sep.at_ (i := 1) (by assumption) rfl | exact Sep.at_ (i := 2) (by assumption) rfl | exact Sep.at_ (i := 3) (by assumption) rfl | exact Sep.at_ (i := 4) (by assumption) rfl | exact Sep.at_ (i := 5) (by assumption) rfl | exact Sep.at_ (i := 6) (by assumption) rfl); (first | exact Nat.le_of_ble_eq_true rfl | exact (by decide) | (focus (simp [cellsD]; done))); (first | (simp only [cells_orow, cD_int, cD_bool, cD_float, cD_nil, cD_ptr0, cD_str, cD_row, cD_mrow, cD_ptr, cD_ref, cD_fn, cD_agg, List.take_zero, List.take_succ_cons, List.take_nil, List.drop_succ_cons, List.drop_zero, List.drop_nil, List.nil_append, List.cons_append, List.append_nil, Nat.zero_add, Nat.reduceAdd]; exact rfl) | exact rfl))))
  (try ((with_reducible apply zs_yes); exact rfl; exact rfl; (first | assumption | exact rfl))); refine zo_callU (inner_ps (c := c) (l := l) (tl := 0) ⟨hc, hl⟩) Try.func10 (by kernel_rfl) rfl rfl rfl rfl (by decide) rfl rfl zq2 ?_; refine ⟨rfl, fun d hd => ?_⟩; obtain ⟨n, rfl, hn⟩ := hd
  have hN := hn.nodeB hc
  have hs := hn.srt
  have hkb := hN.keys
  have hkl := hkb.1
  have hkk := hn.kids
  have hml := hn.mlen
  obtain ⟨hf1, hf2⟩ := hc.hf
  obtain ⟨hcc1, hcc2⟩ := hc.hc
  obtain ⟨hm1, hm2⟩ := hc.hm
  have hmm : c.f * c.c ≤ 8 := by
    have h1 : c.f * c.c ≤ 4 * c.c := Int.mul_le_mul_of_nonneg_right hf2 (by omega)
    omega
  obtain ⟨q, hq⟩ := Int.eq_ofNat_of_zero_le (show 0 ≤ most % 4 + 1 by omega)
  (repeat (first | ((with_reducible apply zr_seq)) | ((with_reducible apply zr_region); (try simp only [List.append_eq, List.cons_append, List.nil_append])) | ((with_reducible apply zo_end)) | ((with_reducible apply zs_move); (exact rfl); (exact rfl)) | ((with_reducible apply zs_assign); (exact rfl); (exact rfl)) | ((with_reducible apply zs_add); (exact rfl); (exact rfl); (exact rfl); (first | (with_reducible assumption) | exact wrap_in64 (by omega) (by omega))) | ((with_reducible apply zs_len); (exact rfl); (exact rfl); (exact un_sl rfl)) | ((with_reducible apply zs_field_ref); (exact rfl); (exact rfl); (exact fld_of rfl)) | ((with_reducible apply zs_load_ref); (exact rfl); (exact rfl); (exact sh_of rfl); (exact rfl)) | ((with_reducible apply (zs_mask (p := 4) 2)); (exact rfl); (exact rfl); (exact rfl); (exact rfl); (decide); (decide); (decide)) | ((with_reducible apply (zs_allocRef (t := 7))); (exact el_of rfl); (simp [oneD, Value.oneCell']); (exact sh_of rfl); (exact rfl); (intro _; exact rfl); (exact rfl); (simp [cellsD, oneD, Value.oneCell', msgD, nodeD, pairD, cfgD]))))
  rw [hq]
  skip
  have hS : Zm.Sep st sS [] := hS.erase 0
  have hr1 : (intR n.kids).length = n.kids.length := intR_length _
  have hml2 := hN.msgs
  (try ((with_reducible apply zs_yes); exact rfl; exact rfl; (first | assumption | exact rfl))); refine zo_val rfl rfl (by decide) (zv_smake rfl rfl rfl zq35 zq32 (by exact rfl) zq30 (by omega) (by omega) (by omega) hS fun id sS hS hg => ?_)
  rw [Int.toNat_natCast, rep_own] at hS
  rw [Int.toNat_natCast]
  clear hg
  have hK1 : (intR n.kids).length = n.keys.length + 1 := by rw [intR_length]; exact hkk
  rw [hK1] at hS ⊢
  (repeat (first | ((with_reducible apply (zs_sstore (i := 0))); (exact rfl); (exact rfl); (exact sh_of rfl); (assumption); (exact rfl); (first | exact rfl | (simp [cells_orow])); ((try rw [cells_orow]); (repeat (first | exact one_nil | (apply one_cons; (first | exact rfl | exact one_orow _ _ _))))); (first | exact Nat.le_of_ble_eq_true rfl | omega | (focus (simp [cellsD, msgD, nodeD, pairD, cfgD]; done))); (first | (simp only [cells_orow, cD_int, cD_bool, cD_float, cD_nil, cD_ptr0, cD_str, cD_row, cD_mrow, cD_ptr, cD_ref, cD_fn, cD_agg, List.take_zero, List.take_succ_cons, List.take_nil, List.drop_succ_cons, List.drop_zero, List.drop_nil, List.nil_append, List.cons_append, List.append_nil, Nat.zero_add, Nat.reduceAdd]; exact rfl) | exact rfl); (intro sS hS); (try simp only [List.set_cons_zero, List.set_cons_succ] at hS)) | ((with_reducible apply zr_seq)) | ((with_reducible apply zr_region); (try simp only [List.append_eq, List.cons_append, List.nil_append])) | ((with_reducible apply zo_end)) | ((with_reducible apply zs_assign); (exact rfl); (exact rfl)) | ((with_reducible apply zr_block)) | ((with_reducible apply zs_load_refAll); (exact rfl); (exact rfl); (exact sh_of rfl); (exact rfl)) | ((with_reducible apply (zs_salloc (t := 9))); (exact rfl); (exact el_of rfl); (simp [oneD, Value.oneCell']); (assumption); (intro a9 sS hS))))
  obtain ⟨W0, hW0⟩ : ∃ W0, W0 = List.replicate (n.keys.length + 1) (⟨none, [], 0, []⟩ : OM) := ⟨_, rfl⟩
  have hT := TakenM.start n
  rw [← hW0] at hS hT
  have hS2 := hS.addNones (n.keys.length + 1)
  rw [rep_blk, ← hW0] at hS2
  have hS : Zm.Sep st sS ((some a9, nodeD { n with msgs := n.msgs }) :: (some id, W0.map fun w => w.or.own) :: W0.map OM.blk) := hS2
  clear hS2
  refine zr_loopK [2, 7, 8, 9] (fun m e s => ∃ (M : List MsgV) (W : List OM) (t z : Nat), m = M.length ∧ e = [(10, .v (.int .i64 (z : Nat))), (11, .v (.int .i64 (t : Nat)))] ∧ TakenM n M W ∧ z + M.length = n.msgs.length ∧ t + M.length ≤ n.msgs.length ∧ (∀ m ∈ M, MB m) ∧ Zm.Sep st s ((some a9, nodeD { n with msgs := M }) :: (some id, W.map fun w => w.or.own) :: W.map OM.blk)) n.msgs.length _ zq18 ⟨n.msgs, W0, 0, 0, rfl, rfl, hT, by simp, by simp, hN.msg, hS⟩ zq21 ?_
  rintro m e s ⟨M, W, t, z, rfl, rfl, hT, hz, ht, hMB, hS⟩
  have hO : NodeB { n with msgs := M } := ⟨hN.keys, hN.vals, hN.kids, by show M.length ≤ _; omega, hMB⟩
  obtain ⟨O, hOe⟩ : ∃ O : NodeV, O = { n with msgs := M } := ⟨_, rfl⟩
  rw [← hOe] at hS hO
  have hOk : O.keys = n.keys := by rw [hOe]
  have hOm : O.msgs = M := by rw [hOe]
  have hOi : O.kids = n.kids := by rw [hOe]
  have hOs : Srt O.keys := by rw [hOk]; exact hs
  have hmr : (msgR O.msgs).length = M.length := by rw [msgR_length, hOm]
  have hWl := hT.len
  have hWo : (W.map fun w => w.or.own).length = n.keys.length + 1 := by rw [List.length_map]; exact hWl
  (repeat (first | ((with_reducible apply zr_seq)) | ((with_reducible apply zr_region); (try simp only [List.append_eq, List.cons_append, List.nil_append])) | ((with_reducible apply zo_end)) | ((with_reducible apply zs_move); (exact rfl); (exact rfl)) | ((with_reducible apply zs_lss); (exact rfl); (exact rfl); (exact rfl)) | ((with_reducible apply zs_and); (exact rfl); (exact rfl); (intro hp_; first | exact congrArg some (gd_t hp_) | exact rfl); (exact rfl)) | ((with_reducible apply (zs_h_gtr [])); (exact rfl); (first | exact GC.t rfl rfl | exact GC.f rfl rfl | exact GC.gt rfl rfl | exact GC.gf rfl rfl); (exact rfl); (intro hc_; first | exact congrArg some (gd_t hc_) | exact congrArg some (gd_t (band_l hc_)) | exact congrArg some (gd_t (band_l (band_l hc_))) | exact rfl); (intro hc_; first | exact congrArg some (gd_t hc_) | exact congrArg some (gd_t (band_l hc_)) | exact congrArg some (gd_t (band_l (band_l hc_))) | exact rfl)) | ((with_reducible apply (zs_h_len [])); (exact rfl); (first | exact GC.t rfl rfl | exact GC.f rfl rfl | exact GC.gt rfl rfl | exact GC.gf rfl rfl); (exact rfl); (exact un_sl rfl); (intro hc_; first | exact congrArg some (gd_t hc_) | exact congrArg some (gd_t (band_l hc_)) | exact congrArg some (gd_t (band_l (band_l hc_))) | exact rfl)) | ((with_reducible apply (zs_h_field_ptr [])); (exact rfl); (first | exact GC.t rfl rfl | exact GC.f rfl rfl | exact GC.gt rfl rfl | exact GC.gf rfl rfl); (exact rfl); (intro hc_; first | exact congrArg some (gd_t hc_) | exact congrArg some (gd_t (band_l hc_)) | exact congrArg some (gd_t (band_l (band_l hc_))) | exact rfl); (intro _; exact fld_of rfl)) | ((with_reducible apply (zs_h_load_ptr [])); (exact rfl); (first | exact GC.t rfl rfl | exact GC.f rfl rfl | exact GC.gt rfl rfl | exact GC.gf rfl rfl); (exact rfl); (intro hc_; first | exact congrArg some (gd_t hc_) | exact congrArg some (gd_t (band_l hc_)) | exact congrArg some (gd_t (band_l (band_l hc_))) | exact rfl); (intro _; exact sh_of rfl); (intro _; first | assumption | exact St.setH_self _ _ _ | exact Sep.at_ (i := 0) (by assumption) rfl | exact Sep.at_ (i := 1) (by assumption) rfl | exact Sep.at_ (i := 2) (by assumption) rfl | exact Sep.at_ (i := 3) (by assumption) rfl | exact Sep.at_ (i := 4) (by assumption) rfl | exact Sep.at_ (i := 5) (by assumption) rfl | exact Sep.at_ (i := 6) (by assumption) rfl); (intro _; exact rfl))))
  (first | refine zr_cond rfl (fun h1 => ?_) (fun h1 => ?_) | refine zs_split rfl rfl (fun h1 => ?_) (fun h1 => ?_)) <;> have h1' := h1 <;> (try simp only [decide_eq_true_eq, decide_eq_false_iff_not, Bool.and_eq_true, Bool.or_eq_true, Bool.and_eq_false_iff, Bool.or_eq_false_iff, Bool.not_eq_true', Bool.not_eq_false', Bool.not_eq_true, Bool.not_eq_false, Int.not_le, Int.not_lt, Classical.not_not, Decidable.not_not, ne_eq, beq_iff_eq, bne_iff_ne] at h1')
  · have hM0 : 0 < M.length := by omega
    have hcn := heavy_many O 0 (by rw [hOm]; omega)
    have hHl := heavy_lt O
    rw [hOk] at hHl
    have hXl := mine_len O.keys (heavyL O) q O.msgs
    have hXs := mineL_len O.keys (heavyL O) q O.msgs
    have hX1 : (msgR (mineL O.keys (heavyL O) q O.msgs).1).length = (mineL O.keys (heavyL O) q O.msgs).1.length := msgR_length _
    have hOl0 : O.msgs.length = M.length := by rw [hOm]
    obtain ⟨w, hw⟩ : ∃ w, W[heavyL O]? = some w := ⟨W[heavyL O]'(by omega), List.getElem?_eq_getElem (by omega)⟩
    have hwo : (W.map fun w => w.or.own)[heavyL O]? = some (orow w.ob (msgR w.ms).length w.c) := by rw [List.getElem?_map, hw]; rfl
    have hwb : (W.map OM.blk)[heavyL O]? = some (w.ob, w.full) := by rw [List.getElem?_map, hw]; rfl
    have hwk := hT.ok w (List.mem_of_getElem? hw)
    have hwg : GRow w.ob w.full 3 (msgR w.ms).length w.c (msgR w.ms).flatten := hwk.g
    have hwm : w.ms.length ≤ n.msgs.length := by
      have h1 := congrArg List.length (hT.inv _ w hw)
      rw [List.length_append] at h1
      have := List.length_filter_le (fun m : MsgV => wayL n.keys m.2.1 == heavyL O) n.msgs
      omega
    have hwm2 : (msgR w.ms).length = w.ms.length := msgR_length _
    have hwz : IntKind.i64.wrap ((z : Int) + (((msgR (mineL O.keys (heavyL O) q O.msgs).1).length : Nat) : Int)) = ((z + (mineL O.keys (heavyL O) q O.msgs).1.length : Nat) : Int) := by rw [hX1, wrap_in64 (by omega) (by omega)]; rfl
    (repeat (first | ((with_reducible apply (zs_sstore (i := 0))); (exact rfl); (exact rfl); (exact sh_of rfl); (assumption); (exact rfl); (first | exact rfl | (simp [cells_orow])); ((try rw [cells_orow]); (repeat (first | exact one_nil | (apply one_cons; (first | exact rfl | exact one_orow _ _ _))))); (first | exact Nat.le_of_ble_eq_true rfl | omega | (focus (simp [cellsD, msgD, nodeD, pairD, cfgD]; done))); (first | (simp only [cells_orow, cD_int, cD_bool, cD_float, cD_nil, cD_ptr0, cD_str, cD_row, cD_mrow, cD_ptr, cD_ref, cD_fn, cD_agg, List.take_zero, List.take_succ_cons, List.take_nil, List.drop_succ_cons, List.drop_zero, List.drop_nil, List.nil_append, List.cons_append, List.append_nil, Nat.zero_add, Nat.reduceAdd]; exact rfl) | exact rfl); (intro sS hS); (try simp only [List.set_cons_zero, List.set_cons_succ] at hS)) | ((with_reducible apply zr_seq)) | ((with_reducible apply zr_region); (try simp only [List.append_eq, List.cons_append, List.nil_append])) | ((with_reducible apply zo_end)) | ((with_reducible apply zs_yes); (exact rfl); (exact rfl); (first | assumption | exact rfl)) | ((with_reducible apply zs_move); (exact rfl); (exact rfl)) | ((with_reducible apply zs_assign); (exact rfl); (exact rfl)) | ((with_reducible apply zs_lss); (exact rfl); (exact rfl); (exact rfl)) | ((with_reducible apply zs_geq); (exact rfl); (exact rfl); (exact rfl)) | ((with_reducible apply zs_extract); (exact rfl); (exact rfl); (exact rfl)) | ((with_reducible apply zs_pick_f); (exact rfl); (exact rfl); (first | assumption | exact rfl); (exact rfl)) | ((with_reducible apply zr_block)) | ((with_reducible apply zr_skip')) | ((with_reducible apply zs_orB); (exact rfl); (exact rfl); (exact rfl); (intro hp_; first | exact congrArg some (gd_t hp_) | exact rfl)) | ((with_reducible apply zs_len_mrow); (exact rfl); (exact rfl); (exact un_sl rfl)) | ((with_reducible apply zs_load_ptrA); (exact rfl); (exact rfl); (exact sh_of rfl); (first | assumption | exact St.setH_self _ _ _ | exact Sep.at_ (i := 0) (by assumption) rfl | exact Sep.at_ (i := 1) (by assumption) rfl | exact Sep.at_ (i := 2) (by assumption) rfl | exact Sep.at_ (i := 3) (by assumption) rfl | exact Sep.at_ (i := 4) (by assumption) rfl | exact Sep.at_ (i := 5) (by assumption) rfl | exact Sep.at_ (i := 6) (by assumption) rfl); (first | exact Nat.le_of_ble_eq_true rfl | exact (by decide) | (focus (simp [cellsD]; done))); (first | (simp only [cells_orow, cD_int, cD_bool, cD_float, cD_nil, cD_ptr0, cD_str, cD_row, cD_mrow, cD_ptr, cD_ref, cD_fn, cD_agg, List.take_zero, List.take_succ_cons, List.take_nil, List.drop_succ_cons, List.drop_zero, List.drop_nil, List.nil_append, List.cons_append, List.append_nil, Nat.zero_add, Nat.reduceAdd]; exact rfl) | exact rfl)) | ((with_reducible apply (zs_h_move [])); (exact rfl); (first | exact GC.t rfl rfl | exact GC.f rfl rfl | exact GC.gt rfl rfl | exact GC.gf rfl rfl); (exact rfl); (intro hc_; first | exact congrArg some (gd_t hc_) | exact congrArg some (gd_t (band_l hc_)) | exact congrArg some (gd_t (band_l (band_l hc_))) | exact rfl)) | ((with_reducible apply (zs_h_gtr [])); (exact rfl); (first | exact GC.t rfl rfl | exact GC.f rfl rfl | exact GC.gt rfl rfl | exact GC.gf rfl rfl); (exact rfl); (intro hc_; first | exact congrArg some (gd_t hc_) | exact congrArg some (gd_t (band_l hc_)) | exact congrArg some (gd_t (band_l (band_l hc_))) | exact rfl); (intro hc_; first | exact congrArg some (gd_t hc_) | exact congrArg some (gd_t (band_l hc_)) | exact congrArg some (gd_t (band_l (band_l hc_))) | exact rfl)) | ((with_reducible apply (zs_h_eql [])); (exact rfl); (first | exact GC.t rfl rfl | exact GC.f rfl rfl | exact GC.gt rfl rfl | exact GC.gf rfl rfl); (exact rfl); (intro hc_; first | exact congrArg some (gd_t hc_) | exact congrArg some (gd_t (band_l hc_)) | exact congrArg some (gd_t (band_l (band_l hc_))) | exact rfl); (intro hc_; first | exact congrArg some (gd_t hc_) | exact congrArg some (gd_t (band_l hc_)) | exact congrArg some (gd_t (band_l (band_l hc_))) | exact rfl)) | ((with_reducible apply (zs_h_len [])); (exact rfl); (first | exact GC.t rfl rfl | exact GC.f rfl rfl | exact GC.gt rfl rfl | exact GC.gf rfl rfl); (exact rfl); (exact un_sl rfl); (intro hc_; first | exact congrArg some (gd_t hc_) | exact congrArg some (gd_t (band_l hc_)) | exact congrArg some (gd_t (band_l (band_l hc_))) | exact rfl)) | ((with_reducible apply (zs_callQ chunk_pf cl_19)); (exact rfl); (exact rfl); ((repeat (first | exact DLes.nil | (apply DLes.cons; first | exact DLe.refl _ | exact DLe.nilB | exact DLe.nilR | exact DLe.nilI | exact dle_awC | exact dle_awN)))); (first | exact trivial | assumption | ((repeat' (with_reducible refine And.intro ?_ ?_)) <;> first | assumption | omega | exact trivial | (simp; done) | (simp; omega)))) | ((with_reducible apply (zs_callQ heavy_pf cl_18)); (exact rfl); (exact rfl); ((repeat (first | exact DLes.nil | (apply DLes.cons; first | exact DLe.refl _ | exact DLe.nilB | exact DLe.nilR | exact DLe.nilI | exact dle_awC | exact dle_awN)))); (first | exact trivial | assumption | ((repeat' (with_reducible refine And.intro ?_ ?_)) <;> first | assumption | omega | exact trivial | (simp; done) | (simp; omega))))))
    (first | refine zr_cond rfl (fun hC => ?_) (fun hC => ?_) | refine zs_split rfl rfl (fun hC => ?_) (fun hC => ?_)) <;> have hC' := hC <;> (try simp only [decide_eq_true_eq, decide_eq_false_iff_not, Bool.and_eq_true, Bool.or_eq_true, Bool.and_eq_false_iff, Bool.or_eq_false_iff, Bool.not_eq_true', Bool.not_eq_false', Bool.not_eq_true, Bool.not_eq_false, Int.not_le, Int.not_lt, Classical.not_not, Decidable.not_not, ne_eq, beq_iff_eq, bne_iff_ne] at hC')
    · exfalso
      omega
    · clear hC hC'
      (repeat (first | ((with_reducible apply zr_seq)) | ((with_reducible apply zr_region); (try simp only [List.append_eq, List.cons_append, List.nil_append])) | ((with_reducible apply zs_move); (exact rfl); (exact rfl)) | ((with_reducible apply zr_skip')) | ((with_reducible apply zs_load_ptr); (exact rfl); (exact rfl); (exact sh_of rfl); (first | assumption | exact St.setH_self _ _ _ | exact Sep.at_ (i := 0) (by assumption) rfl | exact Sep.at_ (i := 1) (by assumption) rfl | exact Sep.at_ (i := 2) (by assumption) rfl | exact Sep.at_ (i := 3) (by assumption) rfl | exact Sep.at_ (i := 4) (by assumption) rfl | exact Sep.at_ (i := 5) (by assumption) rfl | exact Sep.at_ (i := 6) (by assumption) rfl); (first | exact rfl | assumption)) | ((with_reducible apply zs_index_mrow1); (exact rfl); (exact rfl); (exact rfl); (exact un_sl rfl); (exact ii_of rfl); (first | omega | (simp only [List.length_map, List.length_take, List.length_drop, List.length_append, List.length_cons, List.length_nil, List.length_replicate, rowR_length, intR_length, msgR_length, pairR_length]; omega) | decide); (first | omega | (simp only [List.length_map, List.length_take, List.length_drop, List.length_append, List.length_cons, List.length_nil, List.length_replicate, rowR_length, intR_length, msgR_length, pairR_length]; omega) | decide); (first | (with_reducible exact Int.toNat_natCast _) | (simp only [Int.reduceToNat]; exact rfl) | exact rfl))))
      have hS : Zm.Sep st sS ((some a9, nodeD { O with msgs := (mineL O.keys (heavyL O) q O.msgs).2 }) :: (some id, W.map fun w => w.or.own) :: W.map OM.blk) := hS
      (try ((with_reducible apply zs_yes); exact rfl; exact rfl; (first | assumption | exact rfl))); refine zo_val rfl rfl (by decide) (zv_sappR (i := heavyL O + 2) rfl rfl rfl zq35 zq32 zq30 hS hwb hwg (by omega) fun o1 c1 f1 s1 hS1 hg1 => ?_)
      have hS : Zm.Sep st s1 ((some a9, nodeD { O with msgs := (mineL O.keys (heavyL O) q O.msgs).2 }) :: (some id, W.map fun w => w.or.own) :: (W.map OM.blk).set (heavyL O) (o1, f1)) := hS1
      (repeat (first | ((with_reducible apply (zs_sstore (i := 1))); (exact rfl); (exact rfl); (exact sh_of rfl); (assumption); (exact rfl); (first | exact rfl | (simp [cells_orow])); ((try rw [cells_orow]); (repeat (first | exact one_nil | (apply one_cons; (first | exact rfl | exact one_orow _ _ _))))); (first | exact Nat.le_of_ble_eq_true rfl | omega | (focus (simp [cellsD, msgD, nodeD, pairD, cfgD]; done))); (first | (simp only [cells_orow, cD_int, cD_bool, cD_float, cD_nil, cD_ptr0, cD_str, cD_row, cD_mrow, cD_ptr, cD_ref, cD_fn, cD_agg, List.take_zero, List.take_succ_cons, List.take_nil, List.drop_succ_cons, List.drop_zero, List.drop_nil, List.nil_append, List.cons_append, List.append_nil, Nat.zero_add, Nat.reduceAdd]; exact rfl) | exact rfl); (intro sS hS); (try simp only [List.set_cons_zero, List.set_cons_succ] at hS)) | ((with_reducible apply zr_region); (try simp only [List.append_eq, List.cons_append, List.nil_append])) | ((with_reducible apply zo_end)) | ((with_reducible apply zo_endB)) | ((with_reducible apply zs_move); (exact rfl); (exact rfl)) | ((with_reducible apply zs_assign); (exact rfl); (exact rfl)) | ((with_reducible apply zs_add); (exact rfl); (exact rfl); (exact rfl); (first | (with_reducible assumption) | exact wrap_in64 (by omega) (by omega))) | ((with_reducible apply zs_len); (exact rfl); (exact rfl); (exact un_sl rfl)) | ((with_reducible apply zs_index_mrow1); (exact rfl); (exact rfl); (exact rfl); (exact un_sl rfl); (exact ii_of rfl); (first | omega | (simp only [List.length_map, List.length_take, List.length_drop, List.length_append, List.length_cons, List.length_nil, List.length_replicate, rowR_length, intR_length, msgR_length, pairR_length]; omega) | decide); (first | omega | (simp only [List.length_map, List.length_take, List.length_drop, List.length_append, List.length_cons, List.length_nil, List.length_replicate, rowR_length, intR_length, msgR_length, pairR_length]; omega) | decide); (first | (with_reducible exact Int.toNat_natCast _) | (simp only [Int.reduceToNat]; exact rfl) | exact rfl))))
      obtain ⟨w', hw'⟩ : ∃ w' : OM, w' = ⟨o1, f1, c1, w.ms ++ (mineL O.keys (heavyL O) q O.msgs).1⟩ := ⟨_, rfl⟩
      have hok' : w'.or.ok := by
        rw [hw']
        refine ⟨Nat.succ_pos 2, ?_, msgR_three _⟩
        show GRow o1 f1 3 (msgR (w.ms ++ (mineL O.keys (heavyL O) q O.msgs).1)).length c1 (msgR (w.ms ++ (mineL O.keys (heavyL O) q O.msgs).1)).flatten
        rw [msgR_append, List.length_append, List.flatten_append]; exact hg1
      have hT' : TakenM n (mineL O.keys (heavyL O) q O.msgs).2 (W.set (heavyL O) w') := by
        have := hT.step (most := q) hw hok' (by rw [hw', hOk, hOm])
        rw [hOk, hOm]; exact this
      have e1 : orow o1 ((msgR w.ms).length + (msgR (mineL O.keys (heavyL O) q O.msgs).1).length) c1 = w'.or.own := by
        rw [hw']
        show _ = orow o1 (msgR (w.ms ++ (mineL O.keys (heavyL O) q O.msgs).1)).length c1
        rw [msgR_append, List.length_append]
      have e2 : (W.map OM.blk).set (heavyL O) (o1, f1) = (W.set (heavyL O) w').map OM.blk := by rw [List.map_set, hw']; rfl
      have e3 : ({ O with msgs := (mineL O.keys (heavyL O) q O.msgs).2 } : NodeV) = { n with msgs := (mineL O.keys (heavyL O) q O.msgs).2 } := by rw [hOe]
      rw [e1, own_set _ _ _ (by omega), e2, e3] at hS
      refine ⟨(mineL O.keys (heavyL O) q O.msgs).2.length, [(10, .v (.int .i64 ((z + (mineL O.keys (heavyL O) q O.msgs).1.length : Nat) : Int))), (11, .v (.int .i64 ((t + 1 : Nat) : Int)))], by omega, ⟨(mineL O.keys (heavyL O) q O.msgs).2, W.set (heavyL O) w', t + 1, z + (mineL O.keys (heavyL O) q O.msgs).1.length, rfl, rfl, hT', by omega, by omega, fun y hy => ?_, hS⟩, zq21, zq21⟩
      exact hMB y (by rw [← hOm]; exact mine_mem2 hy)
  · have hM : M = [] := List.length_eq_zero_iff.1 (by omega)
    subst hM
    have hTi := hT.inv
    refine zr_freezeK (id := a9) [7, 8, 9, 10] (hS.at_ (i := 0) rfl) zq9 rfl ?_
    replace hS := hS.drop (i := 0) rfl
    simp only [List.eraseIdx_cons_succ, List.eraseIdx_cons_zero] at hS
    refine zr_sfz (env1 := _) (k := 1) (m := n.keys.length + 1) (c := n.keys.length + 1) 0 [7, 8, 9, 10] ((W.map OM.or).map fun r => [r.own]) (by decide) hS rfl (GRow.full (c := n.keys.length + 1) (by rw [hWo]; omega)) (or_flat W) (fun x hx => by obtain ⟨r, _, rfl⟩ := List.mem_map.1 hx; rfl) (fzd_cons rfl .same (fzd_cons rfl .row (fzd_cons rfl .same (fzd_cons rfl .same fzd_nil)))) fun sS hS => ?_
    simp only [List.eraseIdx_cons_succ, List.eraseIdx_cons_zero] at hS
    have hS : Zm.Sep st sS ((W.map OM.or).map fun r => (r.ob, r.full)) := by rw [List.map_map]; exact hS
    refine zr_sfzAll (env1 := _) (W.map OM.or) [7, 8, 9, 10] hS (fun r hr => by obtain ⟨w, hw, rfl⟩ := List.mem_map.1 hr; exact hT.ok w hw) (fzr_cons rfl .same (fzr_cons rfl .rows (fzr_cons rfl .same (fzr_cons rfl .same fzr_nil)))) fun sS hS => ?_
    have hgl : ((W.map OM.or).map fun r => [r.row]).length = n.keys.length + 1 := by rw [List.length_map, List.length_map]; exact hWl
    obtain ⟨G, hG⟩ : ∃ G, G = (W.map OM.or).map fun r => [r.row] := ⟨_, rfl⟩
    rw [← hG] at hgl ⊢
    have hr3 : (msgR n.msgs).length = n.msgs.length := msgR_length _
    (repeat (first | ((with_reducible apply zr_seq)) | ((with_reducible apply zr_region); (try simp only [List.append_eq, List.cons_append, List.nil_append])) | ((with_reducible apply zo_end)) | ((with_reducible apply zs_assign); (exact rfl); (exact rfl)) | ((with_reducible apply zr_block)) | (with_reducible refine zr_exit ?_; simp only [Zthen, Zblock, ↓reduceIte])))
    refine zr_loopK [7, 8, 9, 10] (fun m e s => ∃ k : Nat, m + k = n.keys.length + 1 ∧ e = [(14, .v (.int .i64 (k : Nat)))] ∧ s = sS) (n.keys.length + 1) _ zq18 ⟨0, by simp, rfl, rfl⟩ zq21 ?_
    rintro m e s ⟨k, hm, rfl, rfl⟩
    (repeat (first | ((with_reducible apply zr_seq)) | ((with_reducible apply zr_region); (try simp only [List.append_eq, List.cons_append, List.nil_append])) | ((with_reducible apply zo_end)) | ((with_reducible apply zs_move); (exact rfl); (exact rfl)) | ((with_reducible apply zs_lss); (exact rfl); (exact rfl); (exact rfl)) | ((with_reducible apply zs_len); (exact rfl); (exact rfl); (exact un_sl rfl))))
    (first | refine zr_cond rfl (fun h2 => ?_) (fun h2 => ?_) | refine zs_split rfl rfl (fun h2 => ?_) (fun h2 => ?_)) <;> have h2' := h2 <;> (try simp only [decide_eq_true_eq, decide_eq_false_iff_not, Bool.and_eq_true, Bool.or_eq_true, Bool.and_eq_false_iff, Bool.or_eq_false_iff, Bool.not_eq_true', Bool.not_eq_false', Bool.not_eq_true, Bool.not_eq_false, Int.not_le, Int.not_lt, Classical.not_not, Decidable.not_not, ne_eq, beq_iff_eq, bne_iff_ne] at h2')
    · obtain ⟨w, hw⟩ : ∃ w, W[k]? = some w := ⟨W[k]'(by omega), List.getElem?_eq_getElem (by omega)⟩
      have hwg := or_get hw
      rw [← hG] at hwg
      have hwi := hTi k w hw
      simp only [List.filter_nil, List.append_nil] at hwi
      have hwm : (mineL n.keys k (msgR n.msgs).length n.msgs).1 = w.ms := by
        rw [mine_take, hwi, hr3]
        exact List.take_of_length_le (List.length_filter_le _ _)
      have hwl : w.ms.length ≤ 4611686018427387904 := by
        rw [hwi]
        have := List.length_filter_le (fun m : MsgV => wayL n.keys m.2.1 == k) n.msgs
        omega
      have hwd : (!decide (w.ms = w.ms)) = false := by simp
      (repeat (first | ((with_reducible apply zr_seq)) | ((with_reducible apply zr_region); (try simp only [List.append_eq, List.cons_append, List.nil_append])) | ((with_reducible apply zo_end)) | ((with_reducible apply zs_move); (exact rfl); (exact rfl)) | ((with_reducible apply zs_assign); (exact rfl); (exact rfl)) | ((with_reducible apply zs_extract); (exact rfl); (exact rfl); (exact rfl)) | ((with_reducible apply zs_not); (exact rfl); (exact rfl)) | ((with_reducible apply zs_len); (exact rfl); (exact rfl); (exact un_sl rfl)) | ((with_reducible apply zr_block)) | ((with_reducible apply zr_skip')) | ((with_reducible apply zs_field_ref); (exact rfl); (exact rfl); (exact fld_of rfl)) | ((with_reducible apply zs_load_ref); (exact rfl); (exact rfl); (exact sh_of rfl); (exact rfl)) | ((with_reducible apply zs_load_refAll); (exact rfl); (exact rfl); (exact sh_of rfl); (exact rfl)) | ((with_reducible apply zs_idxE); (exact rfl); (exact rfl); (exact rfl); (exact un_sl rfl); (exact ii_of rfl); (first | omega | (simp only [List.length_map, List.length_take, List.length_drop, List.length_append, List.length_cons, List.length_nil, List.length_replicate, rowR_length, intR_length, msgR_length, pairR_length]; omega) | decide); (first | omega | (simp only [List.length_map, List.length_take, List.length_drop, List.length_append, List.length_cons, List.length_nil, List.length_replicate, rowR_length, intR_length, msgR_length, pairR_length]; omega) | decide); (first | (with_reducible exact Int.toNat_natCast _) | (simp only [Int.reduceToNat]; exact rfl) | exact rfl); (assumption)) | ((with_reducible apply (zs_callQ rmine_pf cl_20)); (exact rfl); (exact rfl); ((repeat (first | exact DLes.nil | (apply DLes.cons; first | exact DLe.refl _ | exact DLe.nilB | exact DLe.nilR | exact DLe.nilI | exact dle_awC | exact dle_awN)))); (first | exact trivial | assumption | ((repeat' (with_reducible refine And.intro ?_ ?_)) <;> first | assumption | omega | exact trivial | (simp; done) | (simp; omega)))) | ((with_reducible apply (zs_callQ sameMs_pf cl_16)); (exact rfl); (exact rfl); ((repeat (first | exact DLes.nil | (apply DLes.cons; first | exact DLe.refl _ | exact DLe.nilB | exact DLe.nilR | exact DLe.nilI | exact dle_awC | exact dle_awN)))); (first | exact trivial | assumption | ((repeat' (with_reducible refine And.intro ?_ ?_)) <;> first | assumption | omega | exact trivial | (simp; done) | (simp; omega))))))
      rw [hwm]
      (repeat (first | ((with_reducible apply zr_region); (try simp only [List.append_eq, List.cons_append, List.nil_append])) | ((with_reducible apply zo_end)) | ((with_reducible apply zs_move); (exact rfl); (exact rfl)) | ((with_reducible apply zs_assign); (exact rfl); (exact rfl)) | ((with_reducible apply zs_add); (exact rfl); (exact rfl); (exact rfl); (first | (with_reducible assumption) | exact wrap_in64 (by omega) (by omega))) | ((with_reducible apply zr_cond_f); (exact rfl); (first | assumption | exact rfl)) | ((with_reducible apply zr_skipB))))
      exact ⟨m - 1, _, by omega, ⟨k + 1, by omega, rfl, rfl⟩, zq21, zq21⟩
    · have c1 : decide (((msgR O.msgs).length : Int) = 0) = true := decide_eq_true (by rw [hmr]; rfl)
      have c2 : decide ((z : Int) = ((msgR n.msgs).length : Int)) = true := decide_eq_true (by simp at hz; omega)
      have c3 : decide (O.kids = n.kids) = true := by rw [hOi]; simp
      have hOl : O.kids.length ≤ 4611686018427387904 := by rw [hOi]; have := hN.kids; omega
      (repeat (first | ((with_reducible apply zr_seq)) | ((with_reducible apply zr_region); (try simp only [List.append_eq, List.cons_append, List.nil_append])) | ((with_reducible apply zo_end)) | ((with_reducible apply zs_yes); (exact rfl); (exact rfl); (first | assumption | exact rfl)) | ((with_reducible apply zs_move); (exact rfl); (exact rfl)) | ((with_reducible apply zs_assign); (exact rfl); (exact rfl)) | ((with_reducible apply zs_eql); (exact rfl); (exact rfl); (exact rfl)) | ((with_reducible apply zs_pick_t); (exact rfl); (exact rfl); (first | assumption | exact rfl); (exact rfl)) | ((with_reducible apply zs_len); (exact rfl); (exact rfl); (exact un_sl rfl)) | (with_reducible refine zr_exit ?_; simp only [Zthen, Zblock, ↓reduceIte]) | ((with_reducible apply zs_field_ref); (exact rfl); (exact rfl); (exact fld_of rfl)) | ((with_reducible apply zs_load_ref); (exact rfl); (exact rfl); (exact sh_of rfl); (exact rfl)) | ((with_reducible apply (zs_callQ awake_pf cl_9)); (exact rfl); (exact rfl); ((repeat (first | exact DLes.nil | (apply DLes.cons; first | exact DLe.refl _ | exact DLe.nilB | exact DLe.nilR | exact DLe.nilI | exact dle_awC | exact dle_awN)))); (first | exact trivial | assumption | ((repeat' (with_reducible refine And.intro ?_ ?_)) <;> first | assumption | omega | exact trivial | (simp; done) | (simp; omega)))) | ((with_reducible apply (zs_callQ sameI_pf cl_17)); (exact rfl); (exact rfl); ((repeat (first | exact DLes.nil | (apply DLes.cons; first | exact DLe.refl _ | exact DLe.nilB | exact DLe.nilR | exact DLe.nilI | exact dle_awC | exact dle_awN)))); (first | exact trivial | assumption | ((repeat' (with_reducible refine And.intro ?_ ?_)) <;> first | assumption | omega | exact trivial | (simp; done) | (simp; omega)))) | ((with_reducible apply zr_retZ); (exact rfl); (repeat (first | exact resD_nil _ _ _ | ((with_reducible apply resD_tmp); (exact rfl)) | ((with_reducible apply resD_cell_agg); (exact rfl); (exact sh_of rfl); (first | assumption | exact St.setH_self _ _ _ | exact Sep.at_ (i := 0) (by assumption) rfl | exact Sep.at_ (i := 1) (by assumption) rfl | exact Sep.at_ (i := 2) (by assumption) rfl | exact Sep.at_ (i := 3) (by assumption) rfl | exact Sep.at_ (i := 4) (by assumption) rfl | exact Sep.at_ (i := 5) (by assumption) rfl | exact Sep.at_ (i := 6) (by assumption) rfl); (exact rfl)) | ((with_reducible apply resD_cell); (exact rfl); (exact sh_of rfl); (first | assumption | exact St.setH_self _ _ _ | exact Sep.at_ (i := 0) (by assumption) rfl | exact Sep.at_ (i := 1) (by assumption) rfl | exact Sep.at_ (i := 2) (by assumption) rfl | exact Sep.at_ (i := 3) (by assumption) rfl | exact Sep.at_ (i := 4) (by assumption) rfl | exact Sep.at_ (i := 5) (by assumption) rfl | exact Sep.at_ (i := 6) (by assumption) rfl); (exact rfl)))); (simp only [resOf]))))
      exact KE.mk _ hS.ext hK
end Go.Proofs.ZtLe
