/- A part of the proof of LeafRoom: walks of the functions that it reaches. No condition. -/
import Derived.Test.YtocpidlgcakldaaZtMeD
import Derived.Test.YtocpidlgcakldaaZmAuto
namespace Go.Proofs.ZtLe
open Go.RowKit Go.Proofs Go.Proofs.Zm
set_option linter.unusedVariables false
set_option linter.unusedSimpArgs false
set_option maxHeartbeats 20000000
set_option maxRecDepth 100000
attribute [local irreducible] ZWp ZOps ZPure ZPure0 ZVal ZOp SoundF

/-! ### mesg.one -/
def thereP (ps : List PairV) (k : Bs) : Bool := decide ((keysP ps)[cnt (keysP ps) k]? = some k)
def wasP (ps : List PairV) (k : Bs) : Bs := if thereP ps k = true then (ps.getD (cnt (keysP ps) k) ([], [])).2 else []
def oneL (ps : List PairV) (m : MsgV) : List PairV :=
  let r := foldM (wasP ps m.2.1) (thereP ps m.2.1) [m]
  let i := cnt (keysP ps) m.2.1
  if thereP ps m.2.1 = true then (if r.2 = true then ps.set i (m.2.1, r.1) else ps.take i ++ ps.drop (i + 1)) else if r.2 = true then ps.take i ++ (m.2.1, r.1) :: ps.drop i else ps
theorem thereP_get {ps : List PairV} {k : Bs} (h : thereP ps k = true) : ∃ v, ps[cnt (keysP ps) k]? = some (k, v) := by
  unfold thereP at h
  have h := of_decide_eq_true h
  unfold keysP at h ⊢
  rw [List.getElem?_map] at h
  obtain ⟨⟨a, v⟩, h1, h2⟩ := Option.map_eq_some_iff.1 h
  simp only at h2
  subst h2
  exact ⟨v, h1⟩
theorem pf_take {l : List PairV} {i : Nat} (h : i ≤ l.length) : (pairR l).flatten.take (i * 2) = (pairR (l.take i)).flatten ∧ (pairR l).flatten.drop (i * 2) = (pairR (l.drop i)).flatten := by
  have e : pairR l = pairR (l.take i) ++ pairR (l.drop i) := by rw [← pairR_append, List.take_append_drop]
  have e3 : (pairR (l.take i)).flatten.length = i * 2 := by rw [pairR_flat_length, List.length_take, Nat.min_eq_left h]
  rw [e, List.flatten_append, List.take_left' e3, List.drop_left' e3]
  exact ⟨rfl, rfl⟩
theorem set_pair {id n c i : Nat} {full : List D} {ps : List PairV} {k v w : Bs} (hg : GRow (some id) full 2 n c (pairR ps).flatten) (hp : ps[i]? = some (k, v)) :
    GRow (some id) (full.take (i * 2 + 1) ++ [.row (bytesD w) 1 0] ++ full.drop (i * 2 + 1 + 1)) 2 n c (pairR (ps.set i (k, w))).flatten := by
  have hi : i < ps.length := (List.getElem?_eq_some_iff.1 hp).1
  have hl := hg.length
  rw [pairR_flat_length] at hl
  have hn : ps.length = n := by omega
  obtain ⟨h1, h2⟩ := own_pair hg hp
  have hr := hg.room
  have hfl := hg.len
  have hle : n * 2 ≤ c * 2 := Nat.mul_le_mul_right 2 hr
  refine ⟨?_, hr, fun e => (by cases e), ?_⟩
  · simp only [List.length_append, List.length_take, List.length_drop, List.length_cons, List.length_nil]; omega
  · have e0 : full.take (i * 2 + 1) ++ [.row (bytesD w) 1 0] ++ full.drop (i * 2 + 1 + 1) = full.set (i * 2 + 1) (.row (bytesD w) 1 0) := by
      rw [List.set_eq_take_append_cons_drop, if_pos (by omega)]; simp
    rw [e0, List.take_set, hg.cells]
    apply List.ext_getElem?
    intro j
    have key : ∀ (l : List PairV) (j : Nat), (pairR l).flatten[j]? = (l[j / 2]?).map fun p => if j % 2 = 0 then D.row (bytesD p.1) 1 0 else D.row (bytesD p.2) 1 0 := by
      intro l
      induction l with
      | nil => intro j; simp [pairR]
      | cons p l ih =>
        intro j
        match j with
        | 0 => simp [pairR, pairD]
        | 1 => simp [pairR, pairD]
        | j + 2 =>
          have e1 : (j + 2) / 2 = j / 2 + 1 := by omega
          have e2 : (j + 2) % 2 = j % 2 := by omega
          rw [e1, e2, List.getElem?_cons_succ, ← ih j]
          simp [pairR, pairD]
    rw [List.getElem?_set, key, key, List.getElem?_set]
    by_cases hj : i * 2 + 1 = j
    · subst hj
      rw [if_pos rfl, pairR_flat_length, if_pos (by omega), show (i * 2 + 1) / 2 = i by omega, if_pos rfl, if_pos hi]
      simp
    · rw [if_neg hj]
      by_cases hj2 : i = j / 2
      · rw [if_pos hj2, if_pos hi, ← hj2, hp]
        have : j % 2 = 0 := by omega
        simp [this]
      · rw [if_neg hj2]
def PB (p : PairV) : Prop := p.1.length ≤ 2147483648 ∧ p.2.length ≤ 2147483648
def oneOwn : ZSpec := fun args st K => ∃ (o : Option Nat) (c : Nat) (full : List D) (ps : List PairV) (m : MsgV), args = [orow o ps.length c, .agg (msgD m)] ∧ OwnA st [(o, full)] ∧ GRow o full 2 ps.length c (pairR ps).flatten ∧ Srt (keysP ps) ∧ ps.length ≤ 2147483647 ∧ (∀ p ∈ ps, PB p) ∧ MB m ∧
  ∀ o' c' f' st', Sep (bareL st [(o, full)]) st' [(o', f')] → GRow o' f' 2 (oneL ps m).length c' (pairR (oneL ps m)).flatten → K (orow o' (oneL ps m).length c') st'
theorem one_own : SoundF Try.prog 85 oneOwn := by
  refine sound_ofA Try.func85 rfl Try.results85 ?_
  rintro w0 args st K ⟨o, c, full, ps, m, rfl, hA, hg, hs, hl, hpb, hmb, hK⟩
  rw [Try.ntmps85]; refine ⟨by simp, ?_⟩
  have hS := hA.sep
  have hcl := cnt_le (keysP ps) m.2.1
  rw [keysP_length] at hcl
  (repeat (first | ((with_reducible apply zr_seq)) | ((with_reducible apply zr_region); (try simp only [List.append_eq, List.cons_append, List.nil_append])) | ((with_reducible apply zo_end)) | ((with_reducible apply zs_move); (exact rfl); (exact rfl)) | ((with_reducible apply zs_assign); (exact rfl); (exact rfl)) | ((with_reducible apply zs_field_ref); (exact rfl); (exact rfl); (exact fld_of rfl)) | ((with_reducible apply zs_load_ref); (exact rfl); (exact rfl); (exact sh_of rfl); (exact rfl)) | ((with_reducible apply (zs_boxRef (t := 3))); (exact rfl); (exact rfl)) | ((with_reducible apply zs_call bskp_own cl_96); (exact rfl); (exact rfl); ((try simp only [List.append_nil]); first | exact Ups.nilrow 1 (Ups.nilrow 1 (Ups.nilrow 1 (Ups.refl _))) | exact Ups.nilrow 1 (Ups.nilrow 1 (Ups.refl _)) | exact Ups.same (Ups.nilrow 1 (Ups.nilrow 1 (Ups.refl _))) | exact Ups.nilrow 1 (Ups.same (Ups.nilrow 1 (Ups.refl _))) | exact Ups.nilrow 1 (Ups.refl _) | exact Ups.same (Ups.nilrow 1 (Ups.refl _)) | exact Ups.same (Ups.same (Ups.nilrow 1 (Ups.refl _))) | exact Ups.refl _))))
  refine ⟨o, c, _, full, ps, m.2.1, rfl, Sep.argsL (A := [(o, full)]) (L := []) hS, hg, hs, by omega, ?_⟩
  obtain ⟨i, hi⟩ : ∃ i, i = cnt (keysP ps) m.2.1 := ⟨_, rfl⟩
  obtain ⟨th, hth⟩ : ∃ th, th = thereP ps m.2.1 := ⟨_, rfl⟩
  have hth2 : decide ((keysP ps)[cnt (keysP ps) m.2.1]? = some m.2.1) = th := by rw [hth]; rfl
  rw [hth2, ← hi]
  (repeat (first | ((with_reducible apply zr_seq)) | ((with_reducible apply zr_region); (try simp only [List.append_eq, List.cons_append, List.nil_append])) | ((with_reducible apply zo_end)) | ((with_reducible apply zs_move); (exact rfl); (exact rfl)) | ((with_reducible apply zs_assign); (exact rfl); (exact rfl)) | ((with_reducible apply zs_extract); (exact rfl); (exact rfl); (exact rfl))))
  refine zr_cutK [0, 3, 5, 6] (fun e s' => ∃ d, e = [(7, d)] ∧ DLe d (.row (bytesD (wasP ps m.2.1)) 1 0) ∧ s' = st) zq22 ?_ ?_
  · (first | refine zr_cond rfl (fun h1 => ?_) (fun h1 => ?_) | refine zs_split rfl rfl (fun h1 => ?_) (fun h1 => ?_)) <;> have h1' := h1 <;> (try simp only [decide_eq_true_eq, decide_eq_false_iff_not, Bool.and_eq_true, Bool.or_eq_true, Bool.and_eq_false_iff, Bool.or_eq_false_iff, Bool.not_eq_true', Bool.not_eq_false', Bool.not_eq_true, Bool.not_eq_false, Int.not_le, Int.not_lt, Classical.not_not, Decidable.not_not, ne_eq, beq_iff_eq, bne_iff_ne] at h1')
    · obtain ⟨v, hv⟩ := thereP_get (ps := ps) (k := m.2.1) (by rw [← hth]; exact h1)
      rw [← hi] at hv
      obtain ⟨id, rfl⟩ := hg.isBlock (by have := (List.getElem?_eq_some_iff.1 hv).1; omega)
      have hwas : wasP ps m.2.1 = v := by unfold wasP; rw [← hth, if_pos h1, ← hi, getD_of hv]
      obtain ⟨q1, q2⟩ := own_pair hg hv
      have hcx : full[i * 2 + 1]? = some (.row (bytesD v) 1 0) := by
        have := congrArg (fun l => l[1]?) q1
        simpa [pairD, List.getElem?_take, List.getElem?_drop] using this
      have hil : i < ps.length := (List.getElem?_eq_some_iff.1 hv).1
      rw [hwas]
      (repeat (first | ((with_reducible apply zr_region); (try simp only [List.append_eq, List.cons_append, List.nil_append])) | ((with_reducible apply zo_end)) | ((with_reducible apply zs_move); (exact rfl); (exact rfl)) | ((with_reducible apply zs_assign); (exact rfl); (exact rfl)) | ((with_reducible apply zs_field_ptr); (exact rfl); (exact rfl); (exact fld_of rfl)) | ((with_reducible apply zs_load_ptr); (exact rfl); (exact rfl); (exact sh_of rfl); (first | assumption | exact St.setH_self _ _ _ | exact Sep.at_ (i := 0) zq40 rfl | exact Sep.at_ (i := 1) zq40 rfl | exact Sep.at_ (i := 2) zq40 rfl | exact Sep.at_ (i := 3) zq40 rfl | exact Sep.at_ (i := 4) zq40 rfl | exact Sep.at_ (i := 5) zq40 rfl | exact Sep.at_ (i := 6) zq40 rfl); (first | exact rfl | assumption)) | ((with_reducible apply zs_index_mrow0); (exact rfl); (exact rfl); (exact rfl); (exact un_sl rfl); (exact ii_of rfl); (first | omega | (simp only [List.length_map, List.length_take, List.length_drop, List.length_append, List.length_cons, List.length_nil, List.length_replicate, rowR_length, intR_length, msgR_length, pairR_length]; omega) | decide); (first | omega | (simp only [List.length_map, List.length_take, List.length_drop, List.length_append, List.length_cons, List.length_nil, List.length_replicate, rowR_length, intR_length, msgR_length, pairR_length]; omega) | decide); (first | (with_reducible exact Int.toNat_natCast _) | (simp only [Int.reduceToNat]; exact rfl) | exact rfl))))
      exact ⟨_, ⟨_, rfl, .refl _, rfl⟩, zq26, zq26⟩
    · have hwas : wasP ps m.2.1 = [] := by unfold wasP; rw [← hth, if_neg (by rw [h1]; simp)]
      rw [hwas]
      (repeat (first | ((with_reducible apply zr_skip'))))
      exact ⟨_, ⟨_, rfl, DLe.nilB, rfl⟩, zq26, zq26⟩
  rintro e s ⟨d, rfl, hd, rfl⟩
  refine zr_as 7 (.row (bytesD (wasP ps m.2.1)) 1 0) rfl hd ?_
  have hwl : (wasP ps m.2.1).length ≤ 2147483648 := by
    unfold wasP
    split
    · rename_i hh
      obtain ⟨v, hv⟩ := thereP_get hh
      rw [getD_of hv]
      exact (hpb _ (List.mem_of_getElem? hv)).2
    · simp
  have hm1 : [m].length ≤ 2147483648 := by simp
  have hm2 : ∀ q ∈ [m], MB q := fun q hq => by simp only [List.mem_singleton] at hq; subst hq; exact hmb
  (repeat (first | ((with_reducible apply zr_seq)) | ((with_reducible apply zr_region); (try simp only [List.append_eq, List.cons_append, List.nil_append])) | ((with_reducible apply zs_move); (exact rfl); (exact rfl)) | ((with_reducible apply zs_load_refAll); (exact rfl); (exact rfl); (exact sh_of rfl); (exact rfl)) | ((with_reducible apply (zs_lit (t := 27) [.tmp 26])); (exact rfl); (exact rfl); (exact rfl); (exact rfl); (exact un_sl rfl); (exact el_of rfl); (simp only [List.map_cons, List.map_nil, cellsD]; exact rfl); ((repeat (first | exact lit_nil | (apply lit_cons; exact rfl; (repeat (first | exact one_nil | (apply one_cons; (first | exact rfl | exact one_orow _ _ _)))))))); (decide))))
  refine zo_as 27 (.row (msgR [m]) 3 0) rfl zq8 ?_
  (repeat (first | ((with_reducible apply zr_seq)) | ((with_reducible apply zr_region); (try simp only [List.append_eq, List.cons_append, List.nil_append])) | ((with_reducible apply zo_end)) | ((with_reducible apply zs_move); (exact rfl); (exact rfl)) | ((with_reducible apply zs_assign); (exact rfl); (exact rfl)) | ((with_reducible apply zs_extract); (exact rfl); (exact rfl); (exact rfl)) | ((with_reducible apply zr_block)) | ((with_reducible apply zs_and); (exact rfl); (exact rfl); (intro hp_; first | exact congrArg some (gd_t hp_) | exact rfl); (exact rfl)) | ((with_reducible apply (zs_h_move [])); (exact rfl); (first | exact GC.t rfl rfl | exact GC.f rfl rfl | exact GC.gt rfl rfl | exact GC.gf rfl rfl); (exact rfl); (intro hc_; first | exact congrArg some (gd_t hc_) | exact congrArg some (gd_t (band_l hc_)) | exact congrArg some (gd_t (band_l (band_l hc_))) | exact rfl)) | ((with_reducible apply (zs_callQ fold_pf cl_98)); (exact rfl); (exact rfl); ((repeat (first | exact DLes.nil | (apply DLes.cons; first | exact DLe.refl _ | exact DLe.nilB | exact DLe.nilR | exact DLe.nilI)))); (first | exact trivial | assumption | ((repeat' (with_reducible refine And.intro ?_ ?_)) <;> first | assumption | omega | exact trivial | (simp; done) | (simp; omega))))))
  have hone : oneL ps m = if th = true then (if (foldM (wasP ps m.2.1) th [m]).2 = true then ps.set i (m.2.1, (foldM (wasP ps m.2.1) th [m]).1) else ps.take i ++ ps.drop (i + 1)) else if (foldM (wasP ps m.2.1) th [m]).2 = true then ps.take i ++ (m.2.1, (foldM (wasP ps m.2.1) th [m]).1) :: ps.drop i else ps := by
    unfold oneL; rw [← hth, ← hi]
  generalize foldM (wasP ps m.2.1) th [m] = R at *
  obtain ⟨tk1, tk2⟩ := pf_take (l := ps) (i := i) (by omega)
  (first | refine zr_cond rfl (fun h1 => ?_) (fun h1 => ?_) | refine zs_split rfl rfl (fun h1 => ?_) (fun h1 => ?_)) <;> have h1' := h1 <;> (try simp only [decide_eq_true_eq, decide_eq_false_iff_not, Bool.and_eq_true, Bool.or_eq_true, Bool.and_eq_false_iff, Bool.or_eq_false_iff, Bool.not_eq_true', Bool.not_eq_false', Bool.not_eq_true, Bool.not_eq_false, Int.not_le, Int.not_lt, Classical.not_not, Decidable.not_not, ne_eq, beq_iff_eq, bne_iff_ne] at h1')
  · rw [if_pos h1'.1, if_pos h1'.2] at hone
    obtain ⟨v, hv⟩ := thereP_get (ps := ps) (k := m.2.1) (by rw [← hth]; exact h1'.1)
    rw [← hi] at hv
    have hil : i < ps.length := (List.getElem?_eq_some_iff.1 hv).1
    obtain ⟨id, rfl⟩ := hg.isBlock (by omega)
    obtain ⟨q1, q2⟩ := own_pair hg hv
    have hgs := set_pair (w := R.1) hg hv
    rw [hone] at hK
    simp only [List.length_set] at hK
    (repeat (first | ((with_reducible apply (zs_sstore (i := 0))); (exact rfl); (exact rfl); (exact sh_of rfl); (assumption); (exact rfl); (first | exact rfl | (simp [cells_orow])); ((try rw [cells_orow]); (repeat (first | exact one_nil | (apply one_cons; (first | exact rfl | exact one_orow _ _ _))))); (first | exact Nat.le_of_ble_eq_true rfl | omega | (focus (simp [cellsD, msgD, nodeD, pairD, cfgD]; done))); (first | (simp only [cells_orow, cD_int, cD_bool, cD_float, cD_nil, cD_ptr0, cD_str, cD_row, cD_mrow, cD_ptr, cD_ref, cD_fn, cD_agg, List.take_zero, List.take_succ_cons, List.take_nil, List.drop_succ_cons, List.drop_zero, List.drop_nil, List.nil_append, List.cons_append, List.append_nil, Nat.zero_add, Nat.reduceAdd]; exact rfl) | exact rfl); (intro sS hS); (try simp only [List.set_cons_zero, List.set_cons_succ] at hS)) | ((with_reducible apply zr_seq)) | ((with_reducible apply zr_region); (try simp only [List.append_eq, List.cons_append, List.nil_append])) | ((with_reducible apply zo_end)) | ((with_reducible apply zo_endB)) | ((with_reducible apply zs_move); (exact rfl); (exact rfl)) | ((with_reducible apply zs_assign); (exact rfl); (exact rfl)) | ((with_reducible apply zs_field_ptr); (exact rfl); (exact rfl); (exact fld_of rfl)) | ((with_reducible apply zs_index_mrow0); (exact rfl); (exact rfl); (exact rfl); (exact un_sl rfl); (exact ii_of rfl); (first | omega | (simp only [List.length_map, List.length_take, List.length_drop, List.length_append, List.length_cons, List.length_nil, List.length_replicate, rowR_length, intR_length, msgR_length, pairR_length]; omega) | decide); (first | omega | (simp only [List.length_map, List.length_take, List.length_drop, List.length_append, List.length_cons, List.length_nil, List.length_replicate, rowR_length, intR_length, msgR_length, pairR_length]; omega) | decide); (first | (with_reducible exact Int.toNat_natCast _) | (simp only [Int.reduceToNat]; exact rfl) | exact rfl)) | ((with_reducible apply zr_retZ); (exact rfl); (repeat (first | exact resD_nil _ _ _ | ((with_reducible apply resD_tmp); (exact rfl)) | ((with_reducible apply resD_cell_agg); (exact rfl); (exact sh_of rfl); (first | assumption | exact St.setH_self _ _ _ | exact Sep.at_ (i := 0) zq40 rfl | exact Sep.at_ (i := 1) zq40 rfl | exact Sep.at_ (i := 2) zq40 rfl | exact Sep.at_ (i := 3) zq40 rfl | exact Sep.at_ (i := 4) zq40 rfl | exact Sep.at_ (i := 5) zq40 rfl | exact Sep.at_ (i := 6) zq40 rfl); (exact rfl)) | ((with_reducible apply resD_cell); (exact rfl); (exact sh_of rfl); (first | assumption | exact St.setH_self _ _ _ | exact Sep.at_ (i := 0) zq40 rfl | exact Sep.at_ (i := 1) zq40 rfl | exact Sep.at_ (i := 2) zq40 rfl | exact Sep.at_ (i := 3) zq40 rfl | exact Sep.at_ (i := 4) zq40 rfl | exact Sep.at_ (i := 5) zq40 rfl | exact Sep.at_ (i := 6) zq40 rfl); (exact rfl)))); (simp only [resOf]))))
    exact KE.mk _ (Ext.refl _) (hK _ _ _ _ hS hgs)
  · (repeat (first | ((with_reducible apply zr_seq)) | ((with_reducible apply zr_region); (try simp only [List.append_eq, List.cons_append, List.nil_append])) | ((with_reducible apply zo_end)) | ((with_reducible apply zs_move); (exact rfl); (exact rfl)) | ((with_reducible apply zs_assign); (exact rfl); (exact rfl))))
    (first | refine zr_cond rfl (fun h2 => ?_) (fun h2 => ?_) | refine zs_split rfl rfl (fun h2 => ?_) (fun h2 => ?_)) <;> have h2' := h2 <;> (try simp only [decide_eq_true_eq, decide_eq_false_iff_not, Bool.and_eq_true, Bool.or_eq_true, Bool.and_eq_false_iff, Bool.or_eq_false_iff, Bool.not_eq_true', Bool.not_eq_false', Bool.not_eq_true, Bool.not_eq_false, Int.not_le, Int.not_lt, Classical.not_not, Decidable.not_not, ne_eq, beq_iff_eq, bne_iff_ne] at h2')
    · have hR2 : ¬ R.2 = true := by intro hh; rw [h2', hh] at h1; simp at h1
      rw [if_pos h2', if_neg hR2] at hone
      obtain ⟨v, hv⟩ := thereP_get (ps := ps) (k := m.2.1) (by rw [← hth]; exact h2')
      rw [← hi] at hv
      have hil : i < ps.length := (List.getElem?_eq_some_iff.1 hv).1
      have hlen : (oneL ps m).length = i + (ps.length - (i + 1)) := by rw [hone, List.length_append, List.length_take, List.length_drop, Nat.min_eq_left (by omega)]
      (repeat (first | ((with_reducible apply zr_region); (try simp only [List.append_eq, List.cons_append, List.nil_append])) | ((with_reducible apply zs_move); (exact rfl); (exact rfl)) | ((with_reducible apply zs_add); (exact rfl); (exact rfl); (exact rfl); (first | (with_reducible assumption) | exact wrap_in64 (by omega) (by omega))) | ((with_reducible apply zs_call del_snd cl_99); (exact rfl); (exact rfl); ((try simp only [List.append_nil]); first | exact Ups.nilrow 1 (Ups.nilrow 1 (Ups.nilrow 1 (Ups.refl _))) | exact Ups.nilrow 1 (Ups.nilrow 1 (Ups.refl _)) | exact Ups.same (Ups.nilrow 1 (Ups.nilrow 1 (Ups.refl _))) | exact Ups.nilrow 1 (Ups.same (Ups.nilrow 1 (Ups.refl _))) | exact Ups.nilrow 1 (Ups.refl _) | exact Ups.same (Ups.nilrow 1 (Ups.refl _)) | exact Ups.same (Ups.same (Ups.nilrow 1 (Ups.refl _))) | exact Ups.refl _))))
      refine ⟨o, ps.length, c, i, i + 1, full, _, rfl, by omega, by omega, by omega, Sep.argsL (A := [(o, full)]) (L := []) hS, hg, fun o' c' f' s' hS2 g' => ?_⟩
      replace hS := Sep.backL hS hS2; simp only [List.cons_append, List.nil_append] at hS
      (repeat (first | ((with_reducible apply zr_seq)) | ((with_reducible apply zr_region); (try simp only [List.append_eq, List.cons_append, List.nil_append])) | ((with_reducible apply zo_end)) | ((with_reducible apply zo_endB)) | ((with_reducible apply zs_move); (exact rfl); (exact rfl)) | ((with_reducible apply zs_assign); (exact rfl); (exact rfl)) | ((with_reducible apply zr_retZ); (exact rfl); (repeat (first | exact resD_nil _ _ _ | ((with_reducible apply resD_tmp); (exact rfl)) | ((with_reducible apply resD_cell_agg); (exact rfl); (exact sh_of rfl); (first | assumption | exact St.setH_self _ _ _ | exact Sep.at_ (i := 0) zq40 rfl | exact Sep.at_ (i := 1) zq40 rfl | exact Sep.at_ (i := 2) zq40 rfl | exact Sep.at_ (i := 3) zq40 rfl | exact Sep.at_ (i := 4) zq40 rfl | exact Sep.at_ (i := 5) zq40 rfl | exact Sep.at_ (i := 6) zq40 rfl); (exact rfl)) | ((with_reducible apply resD_cell); (exact rfl); (exact sh_of rfl); (first | assumption | exact St.setH_self _ _ _ | exact Sep.at_ (i := 0) zq40 rfl | exact Sep.at_ (i := 1) zq40 rfl | exact Sep.at_ (i := 2) zq40 rfl | exact Sep.at_ (i := 3) zq40 rfl | exact Sep.at_ (i := 4) zq40 rfl | exact Sep.at_ (i := 5) zq40 rfl | exact Sep.at_ (i := 6) zq40 rfl); (exact rfl)))); (simp only [resOf]))))
      refine KE.mk _ (Ext.refl _) (by have := hK o' c' f' s' hS (by rw [hlen, hone, pairR_append, List.flatten_append]; rw [tk1, (pf_take (l := ps) (i := i + 1) (by omega)).2] at g'; exact g'); rw [hlen] at this; exact this)
    · rw [if_neg (by rw [h2']; simp)] at hone
      (repeat (first | ((with_reducible apply zr_seq)) | ((with_reducible apply zr_region); (try simp only [List.append_eq, List.cons_append, List.nil_append])) | ((with_reducible apply zo_end)) | ((with_reducible apply zs_move); (exact rfl); (exact rfl)) | ((with_reducible apply zs_assign); (exact rfl); (exact rfl))))
      (first | refine zr_cond rfl (fun h3 => ?_) (fun h3 => ?_) | refine zs_split rfl rfl (fun h3 => ?_) (fun h3 => ?_)) <;> have h3' := h3 <;> (try simp only [decide_eq_true_eq, decide_eq_false_iff_not, Bool.and_eq_true, Bool.or_eq_true, Bool.and_eq_false_iff, Bool.or_eq_false_iff, Bool.not_eq_true', Bool.not_eq_false', Bool.not_eq_true, Bool.not_eq_false, Int.not_le, Int.not_lt, Classical.not_not, Decidable.not_not, ne_eq, beq_iff_eq, bne_iff_ne] at h3')
      · rw [if_pos h3'] at hone
        have hlen : (oneL ps m).length = ps.length + 1 := by rw [hone, List.length_append, List.length_cons, List.length_take, List.length_drop, Nat.min_eq_left (by omega)]; omega
        have hmk := hmb.1
        (repeat (first | ((with_reducible apply zr_region); (try simp only [List.append_eq, List.cons_append, List.nil_append])) | ((with_reducible apply zs_move); (exact rfl); (exact rfl)) | ((with_reducible apply zs_field_ref); (exact rfl); (exact rfl); (exact fld_of rfl)) | ((with_reducible apply zs_load_ref); (exact rfl); (exact rfl); (exact sh_of rfl); (exact rfl)) | ((with_reducible apply zs_build); (exact rfl); (exact el_of rfl); (exact st_of rfl); (exact rfl); (first | (simp only [fillD, cellsD, cells_orow, List.take_zero, List.take_succ_cons, List.take_nil, List.drop_succ_cons, List.drop_zero, List.drop_nil, List.nil_append, List.cons_append, List.append_nil, Nat.zero_add, Nat.reduceAdd, List.length_cons, List.length_nil]; exact rfl) | ((repeat (apply fillD_cons; exact rfl; (first | exact rfl | simp [cells_orow]); (exact Nat.le_of_ble_eq_true rfl); (simp only [cells_orow, cD_int, cD_bool, cD_float, cD_nil, cD_ptr0, cD_str, cD_row, cD_mrow, cD_ptr, cD_ref, cD_fn, cD_agg, List.take_zero, List.take_succ_cons, List.take_nil, List.drop_succ_cons, List.drop_zero, List.drop_nil, List.nil_append, List.cons_append, List.append_nil, Nat.zero_add, Nat.reduceAdd]; exact rfl))); exact rfl) | exact rfl)) | ((with_reducible apply (zs_callQ clone_pf cl_68)); (exact rfl); (exact rfl); ((repeat (first | exact DLes.nil | (apply DLes.cons; first | exact DLe.refl _ | exact DLe.nilB | exact DLe.nilR | exact DLe.nilI)))); (first | exact trivial | assumption | ((repeat' (with_reducible refine And.intro ?_ ?_)) <;> first | assumption | omega | exact trivial | (simp; done) | (simp; omega))))))
        (try ((with_reducible apply zs_yes); exact rfl; exact rfl; (first | assumption | exact rfl))); refine zo_val rfl rfl (by decide) (zv_slit (xs := [.tmp 56]) (pairD (m.2.1, R.1)) rfl rfl rfl zq39 zq36 (by simp [cellsD, oneD, pairD, Value.oneCell']) rfl (by decide) hS fun v2 sS hS hv => ?_)
        replace hS := hS.front 1 rfl; simp only [List.eraseIdx_cons_succ, List.eraseIdx_cons_zero] at hS
        (repeat (first | ((with_reducible apply zs_call insP_snd cl_100); (exact rfl); (exact rfl); ((try simp only [List.append_nil]); first | exact Ups.nilrow 1 (Ups.nilrow 1 (Ups.nilrow 1 (Ups.refl _))) | exact Ups.nilrow 1 (Ups.nilrow 1 (Ups.refl _)) | exact Ups.same (Ups.nilrow 1 (Ups.nilrow 1 (Ups.refl _))) | exact Ups.nilrow 1 (Ups.same (Ups.nilrow 1 (Ups.refl _))) | exact Ups.nilrow 1 (Ups.refl _) | exact Ups.same (Ups.nilrow 1 (Ups.refl _)) | exact Ups.same (Ups.same (Ups.nilrow 1 (Ups.refl _))) | exact Ups.refl _))))
        refine ⟨o, ps.length, c, i, v2, full, _, pairD (m.2.1, R.1), rfl, by omega, by omega, rfl, Sep.argsL (A := [(o, full), (some v2, pairD (m.2.1, R.1))]) (L := []) hS, hg, fun o' c' f' s' hS2 g' => ?_⟩
        replace hS := Sep.backL hS hS2; simp only [List.cons_append, List.nil_append] at hS
        (repeat (first | ((with_reducible apply zr_seq)) | ((with_reducible apply zr_region); (try simp only [List.append_eq, List.cons_append, List.nil_append])) | ((with_reducible apply zo_end)) | ((with_reducible apply zo_endB)) | ((with_reducible apply zs_move); (exact rfl); (exact rfl)) | ((with_reducible apply zs_assign); (exact rfl); (exact rfl)) | ((with_reducible apply zr_retZ); (exact rfl); (repeat (first | exact resD_nil _ _ _ | ((with_reducible apply resD_tmp); (exact rfl)) | ((with_reducible apply resD_cell_agg); (exact rfl); (exact sh_of rfl); (first | assumption | exact St.setH_self _ _ _ | exact Sep.at_ (i := 0) zq40 rfl | exact Sep.at_ (i := 1) zq40 rfl | exact Sep.at_ (i := 2) zq40 rfl | exact Sep.at_ (i := 3) zq40 rfl | exact Sep.at_ (i := 4) zq40 rfl | exact Sep.at_ (i := 5) zq40 rfl | exact Sep.at_ (i := 6) zq40 rfl); (exact rfl)) | ((with_reducible apply resD_cell); (exact rfl); (exact sh_of rfl); (first | assumption | exact St.setH_self _ _ _ | exact Sep.at_ (i := 0) zq40 rfl | exact Sep.at_ (i := 1) zq40 rfl | exact Sep.at_ (i := 2) zq40 rfl | exact Sep.at_ (i := 3) zq40 rfl | exact Sep.at_ (i := 4) zq40 rfl | exact Sep.at_ (i := 5) zq40 rfl | exact Sep.at_ (i := 6) zq40 rfl); (exact rfl)))); (simp only [resOf]))))
        refine KE.mk _ (Ext.refl _) (by have := hK o' c' f' s' hS (by rw [hlen, hone, pairR_append, List.flatten_append]; rw [tk1, tk2] at g'; rw [List.append_assoc] at g'; exact g'); rw [hlen] at this; exact this)
      · rw [if_neg (by rw [h3']; simp)] at hone
        rw [hone] at hK
        (repeat (first | ((with_reducible apply zr_seq)) | ((with_reducible apply zr_region); (try simp only [List.append_eq, List.cons_append, List.nil_append])) | ((with_reducible apply zo_end)) | ((with_reducible apply zs_move); (exact rfl); (exact rfl)) | ((with_reducible apply zs_assign); (exact rfl); (exact rfl)) | ((with_reducible apply zr_skipB)) | ((with_reducible apply zr_retZ); (exact rfl); (repeat (first | exact resD_nil _ _ _ | ((with_reducible apply resD_tmp); (exact rfl)) | ((with_reducible apply resD_cell_agg); (exact rfl); (exact sh_of rfl); (first | assumption | exact St.setH_self _ _ _ | exact Sep.at_ (i := 0) zq40 rfl | exact Sep.at_ (i := 1) zq40 rfl | exact Sep.at_ (i := 2) zq40 rfl | exact Sep.at_ (i := 3) zq40 rfl | exact Sep.at_ (i := 4) zq40 rfl | exact Sep.at_ (i := 5) zq40 rfl | exact Sep.at_ (i := 6) zq40 rfl); (exact rfl)) | ((with_reducible apply resD_cell); (exact rfl); (exact sh_of rfl); (first | assumption | exact St.setH_self _ _ _ | exact Sep.at_ (i := 0) zq40 rfl | exact Sep.at_ (i := 1) zq40 rfl | exact Sep.at_ (i := 2) zq40 rfl | exact Sep.at_ (i := 3) zq40 rfl | exact Sep.at_ (i := 4) zq40 rfl | exact Sep.at_ (i := 5) zq40 rfl | exact Sep.at_ (i := 6) zq40 rfl); (exact rfl)))); (simp only [resOf]))))
        exact KE.mk _ (Ext.refl _) (hK _ _ _ _ hS hg)
end Go.Proofs.ZtLe
