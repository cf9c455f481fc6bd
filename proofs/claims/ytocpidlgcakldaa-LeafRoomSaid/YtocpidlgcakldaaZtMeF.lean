/- A part of the proof of LeafRoom: walks of the functions that it reaches. No condition. -/
import Derived.Test.YtocpidlgcakldaaZtMeE
import Derived.Test.YtocpidlgcakldaaZtInT
import Derived.Test.YtocpidlgcakldaaZmAuto
namespace Go.Proofs.ZtLe
open Go.RowKit Go.Proofs Go.Proofs.Zm
set_option linter.unusedVariables false
set_option linter.unusedSimpArgs false
set_option maxHeartbeats 20000000
set_option maxRecDepth 100000
attribute [local irreducible] ZWp ZOps ZPure ZPure0 ZVal ZOp SoundF

/-! ### mesg.Apply -/
def applyL (p : List PairV) (l : List MsgV) : List PairV := l.foldl oneL p
theorem applyL_snoc (p : List PairV) (l : List MsgV) (m : MsgV) : applyL p (l ++ [m]) = oneL (applyL p l) m := by unfold applyL; rw [List.foldl_append]; rfl
theorem keysP_append (a b : List PairV) : keysP (a ++ b) = keysP a ++ keysP b := by simp [keysP]
theorem keysP_take (a : List PairV) (i : Nat) : keysP (a.take i) = (keysP a).take i := by simp [keysP, List.map_take]
theorem keysP_drop (a : List PairV) (i : Nat) : keysP (a.drop i) = (keysP a).drop i := by simp [keysP, List.map_drop]
theorem oneL_srt {ps : List PairV} {m : MsgV} (hs : Srt (keysP ps)) : Srt (keysP (oneL ps m)) := by
  have hcl := cnt_le (keysP ps) m.2.1
  unfold oneL
  simp only
  split
  · rename_i hth
    obtain ⟨v, hv⟩ := thereP_get hth
    split
    · have : keysP (ps.set (cnt (keysP ps) m.2.1) (m.2.1, (foldM (wasP ps m.2.1) (thereP ps m.2.1) [m]).1)) = keysP ps := by
        unfold keysP
        rw [List.map_set]
        apply List.ext_getElem?
        intro j
        rw [List.getElem?_set]
        split
        · rename_i hj
          subst hj
          rw [List.getElem?_map]
          unfold keysP at hv
          rw [hv]
          split
          · rfl
          · rename_i hh
            have := (List.getElem?_eq_some_iff.1 hv).1
            simp at hh; omega
        · rfl
      rw [this]; exact hs
    · rw [keysP_append, keysP_take, keysP_drop]
      have h1 : ((keysP ps).take (cnt (keysP ps) m.2.1) ++ (keysP ps).drop (cnt (keysP ps) m.2.1 + 1)).Sublist (keysP ps) := by
        have : (keysP ps).take (cnt (keysP ps) m.2.1) ++ (keysP ps).drop (cnt (keysP ps) m.2.1 + 1) = (keysP ps).eraseIdx (cnt (keysP ps) m.2.1) := (List.eraseIdx_eq_take_drop_succ _ _).symm
        rw [this]; exact List.eraseIdx_sublist _ _
      exact List.Pairwise.sublist h1 hs
  · rename_i hth
    split
    · have e : keysP (ps.take (cnt (keysP ps) m.2.1) ++ (m.2.1, (foldM (wasP ps m.2.1) (thereP ps m.2.1) [m]).1) :: ps.drop (cnt (keysP ps) m.2.1)) = insAt (keysP ps) (cnt (keysP ps) m.2.1) m.2.1 := by
        unfold insAt; simp [keysP, List.map_take, List.map_drop]
      rw [e]
      refine srt_ins hs hcl (fun j hj hji => (cnt_iff hs m.2.1 hj).2 hji) fun j hj hji => ?_
      have hnk : ¬ (keysP ps)[cnt (keysP ps) m.2.1]? = some m.2.1 := fun h => hth (by unfold thereP; exact decide_eq_true h)
      have hc : cnt (keysP ps) m.2.1 < (keysP ps).length := by omega
      have h0 : lt m.2.1 ((keysP ps)[cnt (keysP ps) m.2.1]) = true := by
        have h1 : ¬ lt ((keysP ps)[cnt (keysP ps) m.2.1]) m.2.1 = true := fun h => by have := (cnt_iff hs m.2.1 hc).1 h; omega
        rcases lt_le (by simpa using h1) with h | h
        · exact absurd (by rw [List.getElem?_eq_getElem hc, h]) hnk
        · exact h
      rcases Nat.lt_or_ge (cnt (keysP ps) m.2.1) j with q | q
      · exact lt_trans h0 (hs.get q hj)
      · have e : j = cnt (keysP ps) m.2.1 := by omega
        subst e; exact h0
    · exact hs
theorem oneL_len (ps : List PairV) (m : MsgV) : (oneL ps m).length ≤ ps.length + 1 := by
  unfold oneL
  simp only
  split
  · split
    · simp
    · simp only [List.length_append, List.length_take, List.length_drop]; omega
  · split
    · simp only [List.length_append, List.length_cons, List.length_take, List.length_drop]; omega
    · omega
theorem oneL_pb {ps : List PairV} {m : MsgV} (hp : ∀ p ∈ ps, PB p) (hm : MB m) : ∀ p ∈ oneL ps m, PB p := by
  have hw : (wasP ps m.2.1).length ≤ 2147483648 := by
    unfold wasP
    split
    · rename_i hh
      obtain ⟨v, hv⟩ := thereP_get hh
      rw [getD_of hv]
      exact (hp _ (List.mem_of_getElem? hv)).2
    · simp
  have hr := foldM_len (v := wasP ps m.2.1) (there := thereP ps m.2.1) (l := [m]) (N := 2147483648) hw (by decide) (fun q hq => by simp only [List.mem_singleton] at hq; subst hq; exact hm.2)
  intro p hp'
  unfold oneL at hp'
  simp only at hp'
  split at hp'
  · split at hp'
    · rcases List.mem_or_eq_of_mem_set hp' with h | rfl
      · exact hp p h
      · exact ⟨hm.1, hr⟩
    · rcases List.mem_append.1 hp' with h | h
      · exact hp p (List.mem_of_mem_take h)
      · exact hp p (List.mem_of_mem_drop h)
  · split at hp'
    · rcases List.mem_append.1 hp' with h | h
      · exact hp p (List.mem_of_mem_take h)
      · rcases List.mem_cons.1 h with rfl | h
        · exact ⟨hm.1, hr⟩
        · exact hp p (List.mem_of_mem_drop h)
    · exact hp p hp'
def applyOwn : ZSpec := fun args st K => ∃ (p : List PairV) (l : List MsgV) (tp tl : Nat), args = [.row (pairR p) 2 tp, .row (msgR l) 3 tl] ∧ p.length ≤ 1000000 ∧ l.length ≤ 1000000 ∧ Srt (keysP p) ∧ (∀ q ∈ p, PB q) ∧ (∀ m ∈ l, MB m) ∧
  ∀ o c f st', Sep st st' [(o, f)] → GRow o f 2 (applyL p l).length c (pairR (applyL p l)).flatten → K (orow o (applyL p l).length c) st'
theorem apply_own : SoundF Try.prog 70 applyOwn := by
  refine sound_ofA Try.func70 rfl Try.results70 ?_
  rintro w0 args st K ⟨p, l, tp, tl, rfl, hp, hl, hs, hpb, hm, hK⟩
  rw [Try.ntmps70]; refine ⟨by simp, ?_⟩
  refine zr_as 0 (.row (pairR p) 2 0) rfl zq8 ?_
  refine zr_as 1 (.row (msgR l) 3 0) rfl zq8 ?_
  have hr1 : (msgR l).length = l.length := msgR_length _
  have hr2 : (pairR p).length = p.length := pairR_length _
  have hS := Sep.nil st
  (repeat (first | ((with_reducible apply zr_seq)) | ((with_reducible apply zr_region); (try simp only [List.append_eq, List.cons_append, List.nil_append])) | ((with_reducible apply zo_end)) | ((with_reducible apply zs_move); (exact rfl); (exact rfl)) | ((with_reducible apply zs_assign); (exact rfl); (exact rfl)) | ((with_reducible apply zs_len); (exact rfl); (exact rfl); (exact un_sl rfl)) | ((with_reducible apply zr_block))))
  replace hS := hS.addNone []
  refine zr_loopK [1, 10, 11] (fun m e s => ∃ i o c f, m + i = p.length ∧ e = [(5, orow o i c), (12, .v (.int .i64 (i : Nat)))] ∧ Zm.Sep st s [(o, f)] ∧ GRow o f 2 i c (pairR (p.take i)).flatten) p.length _ zq22 ⟨0, none, 0, [], by simp, rfl, hS, GRow.empty 2⟩ zq26 ?_
  rintro m e s ⟨i, o, c, f, hmi, rfl, hS, hg⟩
  (repeat (first | ((with_reducible apply zr_seq)) | ((with_reducible apply zr_region); (try simp only [List.append_eq, List.cons_append, List.nil_append])) | ((with_reducible apply zo_end)) | ((with_reducible apply zs_lss); (exact rfl); (exact rfl); (exact rfl))))
  (first | refine zr_cond rfl (fun h1 => ?_) (fun h1 => ?_) | refine zs_split rfl rfl (fun h1 => ?_) (fun h1 => ?_)) <;> have h1' := h1 <;> (try simp only [decide_eq_true_eq, decide_eq_false_iff_not, Bool.and_eq_true, Bool.or_eq_true, Bool.and_eq_false_iff, Bool.or_eq_false_iff, Bool.not_eq_true', Bool.not_eq_false', Bool.not_eq_true, Bool.not_eq_false, Int.not_le, Int.not_lt, Classical.not_not, Decidable.not_not, ne_eq, beq_iff_eq, bne_iff_ne] at h1')
  · obtain ⟨b, hb, hbt, _, hbg⟩ := eltP (l := p) (i := i) (by omega)
    have hbp := hpb b (List.mem_of_getElem? hb)
    have hb1 := hbp.1
    have hb2 := hbp.2
    (repeat (first | ((with_reducible apply zr_seq)) | ((with_reducible apply zr_region); (try simp only [List.append_eq, List.cons_append, List.nil_append])) | ((with_reducible apply zo_end)) | ((with_reducible apply zr_block)) | ((with_reducible apply zr_skip')) | ((with_reducible apply zs_load_refAll); (exact rfl); (exact rfl); (exact sh_of rfl); (exact rfl)) | ((with_reducible apply zs_idxE); (exact rfl); (exact rfl); (exact rfl); (exact un_sl rfl); (exact ii_of rfl); (first | omega | (simp only [List.length_map, List.length_take, List.length_drop, List.length_append, List.length_cons, List.length_nil, List.length_replicate, rowR_length, intR_length, msgR_length, pairR_length]; omega) | decide); (first | omega | (simp only [List.length_map, List.length_take, List.length_drop, List.length_append, List.length_cons, List.length_nil, List.length_replicate, rowR_length, intR_length, msgR_length, pairR_length]; omega) | decide); (first | (with_reducible exact Int.toNat_natCast _) | (simp only [Int.reduceToNat]; exact rfl) | exact rfl); (assumption)) | ((with_reducible apply (zs_allocRef (t := 7))); (exact el_of rfl); (simp [oneD, Value.oneCell']); (exact sh_of rfl); (exact rfl); (intro _; exact rfl); (exact rfl); (simp [cellsD, oneD, Value.oneCell', msgD, nodeD, pairD, cfgD]))))
    refine zc_begin (m := 11) ([]) [] zq41 rfl ?_
    refine zc_take0 (i := 0) rfl zq41 zq41 zq41 zq41 zq29 rfl rfl (ZPure0.pure (zp_move rfl rfl)) ?_
    refine zc_take0 (i := 1) rfl zq41 zq41 zq41 zq41 zq29 rfl rfl zq20 ?_
    first | (refine zc_take0 (i := 2) rfl zq41 zq41 zq41 zq41 zq29 rfl rfl (zp_load_ref rfl zq38 rfl rfl) ?_) | (refine zc_take0 (i := 2) rfl zq41 zq41 zq41 zq41 zq29 rfl rfl (zp_load_refAll rfl zq38 rfl rfl) ?_) | (refine zc_take (i := 2) rfl zq41 zq41 zq41 zq41 zq41 zq41 zq29 rfl rfl (zpb_load rfl zq38 rfl (.head _) rfl zq33) ?_) | (refine zc_take (i := 2) rfl zq41 zq41 zq41 zq41 zq41 zq41 zq29 rfl rfl (zpb_load rfl zq38 rfl (.tail _ (.head _)) rfl zq33) ?_) | (refine zc_take (i := 2) rfl zq41 zq41 zq41 zq41 zq41 zq41 zq29 rfl rfl (zpb_load rfl zq38 rfl (.tail _ (.tail _ (.head _))) rfl zq33) ?_) | (refine zc_take (i := 2) rfl zq41 zq41 zq41 zq41 zq41 zq41 zq29 rfl rfl (zpb_load_agg rfl zq38 rfl (.head _) rfl rfl zq32) ?_) | (refine zc_take (i := 2) rfl zq41 zq41 zq41 zq41 zq41 zq41 zq29 rfl rfl (zpb_load_agg rfl zq38 rfl (.tail _ (.head _)) rfl rfl zq32) ?_) | (refine zc_take (i := 2) rfl zq41 zq41 zq41 zq41 zq41 zq41 zq29 rfl rfl (zpb_load_agg rfl zq38 rfl (.tail _ (.tail _ (.head _))) rfl rfl zq32) ?_)
    refine zc_take0 (i := 4) rfl zq41 zq41 zq41 zq41 zq29 rfl rfl zq20 ?_
    first | (refine zc_take0 (i := 5) rfl zq41 zq41 zq41 zq41 zq29 rfl rfl (zp_load_ref rfl zq38 rfl rfl) ?_) | (refine zc_take0 (i := 5) rfl zq41 zq41 zq41 zq41 zq29 rfl rfl (zp_load_refAll rfl zq38 rfl rfl) ?_) | (refine zc_take (i := 5) rfl zq41 zq41 zq41 zq41 zq41 zq41 zq29 rfl rfl (zpb_load rfl zq38 rfl (.head _) rfl zq33) ?_) | (refine zc_take (i := 5) rfl zq41 zq41 zq41 zq41 zq41 zq41 zq29 rfl rfl (zpb_load rfl zq38 rfl (.tail _ (.head _)) rfl zq33) ?_) | (refine zc_take (i := 5) rfl zq41 zq41 zq41 zq41 zq41 zq41 zq29 rfl rfl (zpb_load rfl zq38 rfl (.tail _ (.tail _ (.head _))) rfl zq33) ?_) | (refine zc_take (i := 5) rfl zq41 zq41 zq41 zq41 zq41 zq41 zq29 rfl rfl (zpb_load_agg rfl zq38 rfl (.head _) rfl rfl zq32) ?_) | (refine zc_take (i := 5) rfl zq41 zq41 zq41 zq41 zq41 zq41 zq29 rfl rfl (zpb_load_agg rfl zq38 rfl (.tail _ (.head _)) rfl rfl zq32) ?_) | (refine zc_take (i := 5) rfl zq41 zq41 zq41 zq41 zq41 zq41 zq29 rfl rfl (zpb_load_agg rfl zq38 rfl (.tail _ (.tail _ (.head _))) rfl rfl zq32) ?_)
    refine zc_one (i := 3) (fun _ => by first | assumption | (repeat (first | exact BOwn.nil _ | refine BOwn.cons zq7 ?_))) zq41 rfl zq29 (zop_callQ clone_pf cl_68 rfl rfl (by decide) rfl rfl zq23 zq15 ?_)
    refine zc_one (i := 6) (fun _ => by first | assumption | (repeat (first | exact BOwn.nil _ | refine BOwn.cons zq7 ?_))) zq41 rfl zq29 (zop_callQ clone_pf cl_68 rfl rfl (by decide) rfl rfl zq23 zq15 ?_)
    refine zc_take0 (i := 7) rfl zq41 zq41 zq41 zq41 zq29 rfl rfl (ZPure0.pure (zp_build (xs := [(0, .tmp 19), (1, .tmp 22)]) rfl (el_of rfl) (st_of rfl) rfl zq2)) ?_
    refine zc_one_val (i := 8) (fun _ => by first | assumption | (repeat (first | exact BOwn.nil _ | refine BOwn.cons zq7 ?_))) zq41 rfl zq29 rfl rfl (zv_litR (xs := [.tmp 23]) _ rfl rfl rfl zq39 zq36 zq31 zq17 (by decide) ?_)
    first | (refine zc_one_val (i := 9) (fun _ => by first | assumption | (repeat (first | exact BOwn.nil _ | refine BOwn.cons zq7 ?_))) zq41 rfl zq29 rfl rfl (zv_sappR (i := 0) rfl rfl rfl zq39 zq36 zq35 zq40 rfl zq40 zq14 (fun o1 c1 f1 sS hS hg => ?_))) | (refine zc_one_val (i := 9) (fun _ => by first | assumption | (repeat (first | exact BOwn.nil _ | refine BOwn.cons zq7 ?_))) zq41 rfl zq29 rfl rfl (zv_sappR (i := 1) rfl rfl rfl zq39 zq36 zq35 zq40 rfl zq40 zq14 (fun o1 c1 f1 sS hS hg => ?_))) | (refine zc_one_val (i := 9) (fun _ => by first | assumption | (repeat (first | exact BOwn.nil _ | refine BOwn.cons zq7 ?_))) zq41 rfl zq29 rfl rfl (zv_sappR (i := 2) rfl rfl rfl zq39 zq36 zq35 zq40 rfl zq40 zq14 (fun o1 c1 f1 sS hS hg => ?_))) | (refine zc_one_val (i := 9) (fun _ => by first | assumption | (repeat (first | exact BOwn.nil _ | refine BOwn.cons zq7 ?_))) zq41 rfl zq29 rfl rfl (zv_sappR (i := 3) rfl rfl rfl zq39 zq36 zq35 zq40 rfl zq40 zq14 (fun o1 c1 f1 sS hS hg => ?_))) | (refine zc_one_val (i := 9) (fun _ => by first | assumption | (repeat (first | exact BOwn.nil _ | refine BOwn.cons zq7 ?_))) zq41 rfl zq29 rfl rfl (zv_sappR (i := 4) rfl rfl rfl zq39 zq36 zq35 zq40 rfl zq40 zq14 (fun o1 c1 f1 sS hS hg => ?_))) | (refine zc_one_val (i := 9) (fun _ => by first | assumption | (repeat (first | exact BOwn.nil _ | refine BOwn.cons zq7 ?_))) zq41 rfl zq29 rfl rfl (zv_sappR (i := 5) rfl rfl rfl zq39 zq36 zq35 zq40 rfl zq40 zq14 (fun o1 c1 f1 sS hS hg => ?_)))
    (try simp only [List.set_cons_zero, List.set_cons_succ] at hS)
    refine zc_take0 (i := 10) rfl zq41 zq41 zq41 zq41 zq29 rfl rfl (ZPure0.pure (zp_assign rfl rfl)) ?_
    first | refine zc_end (fun _ => by first | assumption | (repeat (first | exact BOwn.nil _ | refine BOwn.cons zq7 ?_))) zq41 ?_ | refine zc_endB (fun _ => by first | assumption | (repeat (first | exact BOwn.nil _ | refine BOwn.cons zq7 ?_))) zq41 ?_ | refine zc_endBB (fun _ => by first | assumption | (repeat (first | exact BOwn.nil _ | refine BOwn.cons zq7 ?_))) zq41 ?_ | refine zc_done (fun _ => by first | assumption | (repeat (first | exact BOwn.nil _ | refine BOwn.cons zq7 ?_))) zq41 ?_
    (repeat (first | ((with_reducible apply zr_region); (try simp only [List.append_eq, List.cons_append, List.nil_append])) | ((with_reducible apply zo_end)) | ((with_reducible apply zs_move); (exact rfl); (exact rfl)) | ((with_reducible apply zs_add); (exact rfl); (exact rfl); (exact rfl); (first | (with_reducible assumption) | exact wrap_in64 (by omega) (by omega)))))
    exact ⟨m - 1, _, by omega, ⟨i + 1, o1, c1, f1, by omega, rfl, hS, by rw [hbt, pairR_append, List.flatten_append]; exact hg⟩, zq26, zq26⟩
  · have hi : i = p.length := by omega
    subst hi
    rw [List.take_length] at hg
    (repeat (first | ((with_reducible apply zr_seq)) | ((with_reducible apply zr_region); (try simp only [List.append_eq, List.cons_append, List.nil_append])) | ((with_reducible apply zo_end)) | ((with_reducible apply zs_move); (exact rfl); (exact rfl)) | ((with_reducible apply zs_len); (exact rfl); (exact rfl); (exact un_sl rfl)) | ((with_reducible apply zr_block)) | (with_reducible refine zr_exit ?_; simp only [Zthen, Zblock, ↓reduceIte])))
    refine zr_loopK [27, 28] (fun m e s => ∃ i X o c f, m + i = l.length ∧ applyL p (l.take i) = X ∧ e = [(5, orow o X.length c), (29, .v (.int .i64 (i : Nat)))] ∧ Zm.Sep st s [(o, f)] ∧ GRow o f 2 X.length c (pairR X).flatten ∧ X.length ≤ p.length + i ∧ Srt (keysP X) ∧ ∀ q ∈ X, PB q) l.length _ zq22 ⟨0, p, o, c, f, by simp, rfl, rfl, hS, hg, by omega, hs, hpb⟩ zq26 ?_
    rintro m e s ⟨i, X, o, c, f, hmi, hX, rfl, hS, hg, hXl, hXs, hXb⟩
    (repeat (first | ((with_reducible apply zr_seq)) | ((with_reducible apply zr_region); (try simp only [List.append_eq, List.cons_append, List.nil_append])) | ((with_reducible apply zo_end)) | ((with_reducible apply zs_lss); (exact rfl); (exact rfl); (exact rfl))))
    (first | refine zr_cond rfl (fun h2 => ?_) (fun h2 => ?_) | refine zs_split rfl rfl (fun h2 => ?_) (fun h2 => ?_)) <;> have h2' := h2 <;> (try simp only [decide_eq_true_eq, decide_eq_false_iff_not, Bool.and_eq_true, Bool.or_eq_true, Bool.and_eq_false_iff, Bool.or_eq_false_iff, Bool.not_eq_true', Bool.not_eq_false', Bool.not_eq_true, Bool.not_eq_false, Int.not_le, Int.not_lt, Classical.not_not, Decidable.not_not, ne_eq, beq_iff_eq, bne_iff_ne] at h2')
    · obtain ⟨b, hb, hbt, _, hbg⟩ := eltM (l := l) (i := i) (by omega)
      have hbm := hm b (List.mem_of_getElem? hb)
      (repeat (first | ((with_reducible apply zr_seq)) | ((with_reducible apply zr_region); (try simp only [List.append_eq, List.cons_append, List.nil_append])) | ((with_reducible apply zo_end)) | ((with_reducible apply zs_move); (exact rfl); (exact rfl)) | ((with_reducible apply zr_block)) | ((with_reducible apply zr_skip')) | ((with_reducible apply zs_load_refAll); (exact rfl); (exact rfl); (exact sh_of rfl); (exact rfl)) | ((with_reducible apply zs_idxE); (exact rfl); (exact rfl); (exact rfl); (exact un_sl rfl); (exact ii_of rfl); (first | omega | (simp only [List.length_map, List.length_take, List.length_drop, List.length_append, List.length_cons, List.length_nil, List.length_replicate, rowR_length, intR_length, msgR_length, pairR_length]; omega) | decide); (first | omega | (simp only [List.length_map, List.length_take, List.length_drop, List.length_append, List.length_cons, List.length_nil, List.length_replicate, rowR_length, intR_length, msgR_length, pairR_length]; omega) | decide); (first | (with_reducible exact Int.toNat_natCast _) | (simp only [Int.reduceToNat]; exact rfl) | exact rfl); (assumption)) | ((with_reducible apply (zs_allocRef (t := 9))); (exact el_of rfl); (simp [oneD, Value.oneCell']); (exact sh_of rfl); (exact rfl); (intro _; exact rfl); (exact rfl); (simp [cellsD, oneD, Value.oneCell', msgD, nodeD, pairD, cfgD])) | ((with_reducible apply zs_call one_own cl_85); (exact rfl); (exact rfl); ((try simp only [List.append_nil]); first | exact Ups.nilrow 1 (Ups.nilrow 1 (Ups.nilrow 1 (Ups.refl _))) | exact Ups.nilrow 1 (Ups.nilrow 1 (Ups.refl _)) | exact Ups.same (Ups.nilrow 1 (Ups.nilrow 1 (Ups.refl _))) | exact Ups.nilrow 1 (Ups.same (Ups.nilrow 1 (Ups.refl _))) | exact Ups.nilrow 1 (Ups.refl _) | exact Ups.same (Ups.nilrow 1 (Ups.refl _)) | exact Ups.same (Ups.same (Ups.nilrow 1 (Ups.refl _))) | exact Ups.refl _))))
      refine ⟨o, c, f, X, b, rfl, Sep.argsL (A := [(o, f)]) (L := []) hS, hg, hXs, by omega, hXb, hbm, fun o' c' f' s' hS2 g' => ?_⟩
      replace hS := Sep.backL hS hS2; simp only [List.cons_append, List.nil_append] at hS
      (repeat (first | ((with_reducible apply zr_region); (try simp only [List.append_eq, List.cons_append, List.nil_append])) | ((with_reducible apply zo_end)) | ((with_reducible apply zo_endB)) | ((with_reducible apply zs_move); (exact rfl); (exact rfl)) | ((with_reducible apply zs_assign); (exact rfl); (exact rfl)) | ((with_reducible apply zs_add); (exact rfl); (exact rfl); (exact rfl); (first | (with_reducible assumption) | exact wrap_in64 (by omega) (by omega)))))
      have hol := oneL_len X b
      exact ⟨m - 1, _, by omega, ⟨i + 1, oneL X b, o', c', f', by omega, by rw [hbt, applyL_snoc, hX], rfl, hS, g', by omega, oneL_srt hXs, oneL_pb hXb hbm⟩, zq26, zq26⟩
    · have hi : i = l.length := by omega
      subst hi
      rw [List.take_length] at hX
      rw [hX] at hK
      (repeat (first | ((with_reducible apply zr_seq)) | ((with_reducible apply zr_region); (try simp only [List.append_eq, List.cons_append, List.nil_append])) | ((with_reducible apply zo_end)) | ((with_reducible apply zs_move); (exact rfl); (exact rfl)) | ((with_reducible apply zs_assign); (exact rfl); (exact rfl)) | (with_reducible refine zr_exit ?_; simp only [Zthen, Zblock, ↓reduceIte]) | ((with_reducible apply zr_retZ); (exact rfl); (repeat (first | exact resD_nil _ _ _ | ((with_reducible apply resD_tmp); (exact rfl)) | ((with_reducible apply resD_cell_agg); (exact rfl); (exact sh_of rfl); (first | assumption | exact St.setH_self _ _ _ | exact Sep.at_ (i := 0) zq40 rfl | exact Sep.at_ (i := 1) zq40 rfl | exact Sep.at_ (i := 2) zq40 rfl | exact Sep.at_ (i := 3) zq40 rfl | exact Sep.at_ (i := 4) zq40 rfl | exact Sep.at_ (i := 5) zq40 rfl | exact Sep.at_ (i := 6) zq40 rfl); (exact rfl)) | ((with_reducible apply resD_cell); (exact rfl); (exact sh_of rfl); (first | assumption | exact St.setH_self _ _ _ | exact Sep.at_ (i := 0) zq40 rfl | exact Sep.at_ (i := 1) zq40 rfl | exact Sep.at_ (i := 2) zq40 rfl | exact Sep.at_ (i := 3) zq40 rfl | exact Sep.at_ (i := 4) zq40 rfl | exact Sep.at_ (i := 5) zq40 rfl | exact Sep.at_ (i := 6) zq40 rfl); (exact rfl)))); (simp only [resOf]))))
      exact KE.mk _ (Ext.refl _) (hK _ _ _ _ hS hg)
theorem apply_pf {p : List PairV} {l : List MsgV} {tp tl : Nat} (h : p.length ≤ 1000000 ∧ l.length ≤ 1000000 ∧ Srt (keysP p) ∧ (∀ q ∈ p, PB q) ∧ ∀ m ∈ l, MB m) : PureF Try.prog 70 [.row (pairR p) 2 tp, .row (msgR l) 3 tl] (.row (pairR (applyL p l)) 2 0) :=
  PureF.ofOwn fun st K hK => ⟨applyOwn, apply_own, p, l, tp, tl, rfl, h.1, h.2.1, h.2.2.1, h.2.2.2.1, h.2.2.2.2, fun o c f st' hS hg => by
    obtain ⟨e1, k1⟩ := OR.mk_ok (by decide) hg rfl (pairR_two _)
    refine hK [⟨o, f, 2, c, pairR (applyL p l)⟩] st' _ hS (fun r hr => ?_) fun G hr => ?_
    · simp only [List.mem_cons, List.not_mem_nil, or_false] at hr
      subst hr; assumption
    · have r1 := hr _ (.head _)
      unfold OR.own OR.row at r1
      simp only at r1
      rw [e1] at r1
      exact r1⟩
end Go.Proofs.ZtLe
