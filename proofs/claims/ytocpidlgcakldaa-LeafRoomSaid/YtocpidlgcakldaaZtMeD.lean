/- A part of the proof of LeafRoom: walks of the functions that it reaches. No condition. -/
import Derived.Test.YtocpidlgcakldaaZtMeC
import Derived.Test.YtocpidlgcakldaaZtInG
import Derived.Test.YtocpidlgcakldaaZmAuto
namespace Go.Proofs.ZtLe
open Go.RowKit Go.Proofs Go.Proofs.Zm
set_option linter.unusedVariables false
set_option linter.unusedSimpArgs false
set_option maxHeartbeats 20000000
set_option maxRecDepth 100000
attribute [local irreducible] ZWp ZOps ZPure ZPure0 ZVal ZOp SoundF

/-! ### pairs in own memory -/
def keysP (ps : List PairV) : List Bs := ps.map (·.1)
theorem keysP_length (ps : List PairV) : (keysP ps).length = ps.length := by simp [keysP]
theorem pairR_flat_length (l : List PairV) : (pairR l).flatten.length = l.length * 2 := by
  rw [flatten_len (pairR l) (pairR_two l), pairR_length]
theorem own_pair {id n c H : Nat} {full : List D} {ps : List PairV} {p : PairV} (hg : GRow (some id) full 2 n c (pairR ps).flatten) (hp : ps[H]? = some p) : (full.drop (H * 2)).take 2 = pairD p ∧ H * 2 + 2 ≤ full.length := by
  have hH : H < ps.length := (List.getElem?_eq_some_iff.1 hp).1
  have hl := hg.length
  rw [pairR_flat_length] at hl
  have hn : ps.length = n := by omega
  have hr := hg.room
  have hfl := hg.len
  have hle : n * 2 ≤ c * 2 := Nat.mul_le_mul_right 2 hr
  have hc := hg.cells
  have e1 : ps = ps.take H ++ p :: ps.drop (H + 1) := by
    have := List.drop_eq_getElem_cons hH
    rw [(List.getElem?_eq_some_iff.1 hp).2] at this
    rw [← this, List.take_append_drop]
  have e2 : (full.drop (H * 2)).take 2 = ((full.take (n * 2)).drop (H * 2)).take 2 := by
    rw [List.drop_take, List.take_take, Nat.min_eq_left (by omega)]
  refine ⟨?_, by omega⟩
  rw [e2, hc, e1, pairR_append, List.flatten_append]
  have e3 : (pairR (ps.take H)).flatten.length = H * 2 := by rw [pairR_flat_length, List.length_take, Nat.min_eq_left (by omega)]
  rw [List.drop_left' e3]
  rfl
theorem bskp_own : SoundF Try.prog 96 fun args st K => ∃ (o : Option Nat) (c tk : Nat) (full : List D) (ps : List PairV) (key : Bs), args = [orow o ps.length c, .row (bytesD key) 1 tk, .fn 97 []] ∧ OwnA st [(o, full)] ∧ GRow o full 2 ps.length c (pairR ps).flatten ∧ Srt (keysP ps) ∧ ps.length ≤ 2147483648 ∧
    K (.tup [.v (.int .i64 (cnt (keysP ps) key : Nat)), .v (.bool (decide ((keysP ps)[cnt (keysP ps) key]? = some key)))]) st := by
  refine sound_ofA Try.func96 rfl Try.results96 ?_
  rintro w0 args st K ⟨o, c, tk, full, ps, key, rfl, hA, hg, hs, hl, hK⟩
  rw [Try.ntmps96]; refine ⟨by simp, ?_⟩
  refine zr_as 1 (.row (bytesD key) 1 0) rfl zq8 ?_
  have hS := hA.sep
  have hcl := cnt_le (keysP ps) key
  rw [keysP_length] at hcl
  generalize hC : cnt (keysP ps) key = C at *
  (repeat (first | ((with_reducible apply zr_seq)) | ((with_reducible apply zr_region); (try simp only [List.append_eq, List.cons_append, List.nil_append])) | ((with_reducible apply zo_end)) | ((with_reducible apply zs_move); (exact rfl); (exact rfl)) | ((with_reducible apply zs_assign); (exact rfl); (exact rfl)) | ((with_reducible apply zr_block)) | ((with_reducible apply zs_len_orow); (exact rfl); (exact rfl); (first | exact GRow.nil0 zq40); (exact un_sl rfl))))
  refine zr_loopK [0, 1, 2, 8] (fun m e s => ∃ i j : Nat, m = j - i ∧ e = [(9, .v (.int .i64 (i : Nat))), (10, .v (.int .i64 (j : Nat)))] ∧ i ≤ C ∧ C ≤ j ∧ j ≤ ps.length ∧ s = st) ps.length _ zq22 ⟨0, ps.length, by simp, rfl, by omega, hcl, Nat.le_refl _, rfl⟩ zq26 ?_
  rintro m e s ⟨i, j, rfl, rfl, hi, hj, hjn, rfl⟩
  (repeat (first | ((with_reducible apply zr_seq)) | ((with_reducible apply zr_region); (try simp only [List.append_eq, List.cons_append, List.nil_append])) | ((with_reducible apply zo_end)) | ((with_reducible apply zs_move); (exact rfl); (exact rfl)) | ((with_reducible apply zs_lss); (exact rfl); (exact rfl); (exact rfl))))
  (first | refine zr_cond rfl (fun h1 => ?_) (fun h1 => ?_) | refine zs_split rfl rfl (fun h1 => ?_) (fun h1 => ?_)) <;> have h1' := h1 <;> (try simp only [decide_eq_true_eq, decide_eq_false_iff_not, Bool.and_eq_true, Bool.or_eq_true, Bool.and_eq_false_iff, Bool.or_eq_false_iff, Bool.not_eq_true', Bool.not_eq_false', Bool.not_eq_true, Bool.not_eq_false, Int.not_le, Int.not_lt, Classical.not_not, Decidable.not_not, ne_eq, beq_iff_eq, bne_iff_ne] at h1')
  · obtain ⟨id, rfl⟩ := hg.isBlock (by omega)
    obtain ⟨H, hH⟩ : ∃ H, H = (i + j) / 2 := ⟨_, rfl⟩
    have hw : IntKind.i64.wrap (((i : Int) + (j : Int)) / 2) = (H : Int) := by rw [wrap_in64 (by omega) (by omega)]; omega
    have hHl : H < ps.length := by omega
    obtain ⟨p, hp⟩ : ∃ p, ps[H]? = some p := ⟨ps[H], List.getElem?_eq_getElem hHl⟩
    obtain ⟨hat, hfl⟩ := own_pair hg hp
    (repeat (first | ((with_reducible apply zr_seq)) | ((with_reducible apply zr_region); (try simp only [List.append_eq, List.cons_append, List.nil_append])) | ((with_reducible apply zo_end)) | ((with_reducible apply zs_move); (exact rfl); (exact rfl)) | ((with_reducible apply zs_assign); (exact rfl); (exact rfl)) | ((with_reducible apply zs_add); (exact rfl); (exact rfl); (exact rfl); (first | (with_reducible assumption) | exact wrap_in64 (by omega) (by omega))) | ((with_reducible apply zs_conv); (exact rfl); (exact rfl); (exact un_int rfl); (exact un_int rfl); (first | first | (with_reducible assumption) | exact wrap_in64 (by omega) (by omega) | exact wrap_inU64 (by omega) (by omega))) | ((with_reducible apply zr_block)) | ((with_reducible apply zr_skip')) | ((with_reducible apply (zs_shr (p := 2))); (exact rfl); (exact rfl); (decide); (exact rfl); (decide)) | ((with_reducible apply zs_index_mrow0); (exact rfl); (exact rfl); (exact rfl); (exact un_sl rfl); (exact ii_of rfl); (first | omega | (simp only [List.length_map, List.length_take, List.length_drop, List.length_append, List.length_cons, List.length_nil, List.length_replicate, rowR_length, intR_length, msgR_length, pairR_length]; omega) | decide); (first | omega | (simp only [List.length_map, List.length_take, List.length_drop, List.length_append, List.length_cons, List.length_nil, List.length_replicate, rowR_length, intR_length, msgR_length, pairR_length]; omega) | decide); (first | (with_reducible exact Int.toNat_natCast _) | (simp only [Int.reduceToNat]; exact rfl) | exact rfl))))
    refine zs_load_ptrA rfl rfl (sh_of rfl) (hS.at_ (i := 0) rfl) hfl hat ?_
    (repeat (first | ((with_reducible apply zs_move); (exact rfl); (exact rfl))))
    (try ((with_reducible apply zs_yes); exact rfl; exact rfl; (first | assumption | exact rfl))); refine zo_cons rfl (zop_callQ mcmp_pf cl_97 rfl rfl (by decide) rfl rfl zq23 zq15 ?_)
    (repeat (first | ((with_reducible apply zo_end)) | ((with_reducible apply zs_lss); (exact rfl); (exact rfl); (exact rfl))))
    rw [cmp_lt]
    have hpk : (keysP ps)[H]? = some p.1 := by unfold keysP; rw [List.getElem?_map, hp]; rfl
    have hci := cnt_iff hs key (i := H) (by rw [keysP_length]; exact hHl)
    rw [hC, (List.getElem?_eq_some_iff.1 hpk).2] at hci
    (first | refine zr_cond rfl (fun h2 => ?_) (fun h2 => ?_) | refine zs_split rfl rfl (fun h2 => ?_) (fun h2 => ?_)) <;> have h2' := h2 <;> (try simp only [decide_eq_true_eq, decide_eq_false_iff_not, Bool.and_eq_true, Bool.or_eq_true, Bool.and_eq_false_iff, Bool.or_eq_false_iff, Bool.not_eq_true', Bool.not_eq_false', Bool.not_eq_true, Bool.not_eq_false, Int.not_le, Int.not_lt, Classical.not_not, Decidable.not_not, ne_eq, beq_iff_eq, bne_iff_ne] at h2')
    · have := hci.1 h2
      (repeat (first | ((with_reducible apply zr_region); (try simp only [List.append_eq, List.cons_append, List.nil_append])) | ((with_reducible apply zo_endB)) | ((with_reducible apply zs_move); (exact rfl); (exact rfl)) | ((with_reducible apply zs_assign); (exact rfl); (exact rfl)) | ((with_reducible apply zs_add); (exact rfl); (exact rfl); (exact rfl); (first | (with_reducible assumption) | exact wrap_in64 (by omega) (by omega)))))
      exact ⟨_, _, by omega, ⟨H + 1, j, rfl, rfl, by omega, hj, hjn, rfl⟩, zq26, zq26⟩
    · have : ¬ H < C := fun q => by have := hci.2 q; rw [this] at h2; cases h2
      (repeat (first | ((with_reducible apply zr_region); (try simp only [List.append_eq, List.cons_append, List.nil_append])) | ((with_reducible apply zo_endB)) | ((with_reducible apply zs_move); (exact rfl); (exact rfl)) | ((with_reducible apply zs_assign); (exact rfl); (exact rfl))))
      exact ⟨_, _, by omega, ⟨i, H, rfl, rfl, hi, by omega, by omega, rfl⟩, zq26, zq26⟩
  · have e : i = C := by omega
    subst e
    (repeat (first | ((with_reducible apply zr_seq)) | ((with_reducible apply zr_region); (try simp only [List.append_eq, List.cons_append, List.nil_append])) | ((with_reducible apply zs_move); (exact rfl); (exact rfl)) | ((with_reducible apply zs_lss); (exact rfl); (exact rfl); (exact rfl)) | (with_reducible refine zr_exit ?_; simp only [Zthen, Zblock, ↓reduceIte])))
    by_cases hlast : i < ps.length
    · obtain ⟨id, rfl⟩ := hg.isBlock (by omega)
      obtain ⟨p, hp⟩ : ∃ p, ps[i]? = some p := ⟨ps[i], List.getElem?_eq_getElem hlast⟩
      obtain ⟨hat, hfl⟩ := own_pair hg hp
      have hpk : (keysP ps)[i]? = some p.1 := by unfold keysP; rw [List.getElem?_map, hp]; rfl
      have hd : decide ((i : Int) < (ps.length : Int)) = true := decide_eq_true (by omega)
      rw [hpk] at hK
      (repeat (first | ((with_reducible apply zs_yes); (exact rfl); (exact rfl); (first | assumption | exact rfl)) | ((with_reducible apply zs_move); (exact rfl); (exact rfl)) | ((with_reducible apply zs_index_mrow0); (exact rfl); (exact rfl); (exact rfl); (exact un_sl rfl); (exact ii_of rfl); (first | omega | (simp only [List.length_map, List.length_take, List.length_drop, List.length_append, List.length_cons, List.length_nil, List.length_replicate, rowR_length, intR_length, msgR_length, pairR_length]; omega) | decide); (first | omega | (simp only [List.length_map, List.length_take, List.length_drop, List.length_append, List.length_cons, List.length_nil, List.length_replicate, rowR_length, intR_length, msgR_length, pairR_length]; omega) | decide); (first | (with_reducible exact Int.toNat_natCast _) | (simp only [Int.reduceToNat]; exact rfl) | exact rfl))))
      refine zs_load_ptrA rfl rfl (sh_of rfl) (hS.at_ (i := 0) rfl) hfl hat ?_
      (repeat (first | ((with_reducible apply zs_yes); (exact rfl); (exact rfl); (first | assumption | exact rfl)) | ((with_reducible apply zs_move); (exact rfl); (exact rfl))))
      (try ((with_reducible apply zs_yes); exact rfl; exact rfl; (first | assumption | exact rfl))); refine zo_cons rfl (zop_callQ mcmp_pf cl_97 rfl rfl (by decide) rfl rfl zq23 zq15 ?_)
      (repeat (first | ((with_reducible apply zo_end)) | ((with_reducible apply zs_yes); (exact rfl); (exact rfl); (first | assumption | exact rfl)) | ((with_reducible apply zs_assign); (exact rfl); (exact rfl)) | ((with_reducible apply zs_eql); (exact rfl); (exact rfl); (exact rfl)) | ((with_reducible apply zs_pick_t); (exact rfl); (exact rfl); (first | assumption | exact rfl); (exact rfl)) | ((with_reducible apply zr_retZ); (exact rfl); (repeat (first | exact resD_nil _ _ _ | ((with_reducible apply resD_tmp); (exact rfl)) | ((with_reducible apply resD_cell_agg); (exact rfl); (exact sh_of rfl); (first | assumption | exact St.setH_self _ _ _ | exact Sep.at_ (i := 0) zq40 rfl | exact Sep.at_ (i := 1) zq40 rfl | exact Sep.at_ (i := 2) zq40 rfl | exact Sep.at_ (i := 3) zq40 rfl | exact Sep.at_ (i := 4) zq40 rfl | exact Sep.at_ (i := 5) zq40 rfl | exact Sep.at_ (i := 6) zq40 rfl); (exact rfl)) | ((with_reducible apply resD_cell); (exact rfl); (exact sh_of rfl); (first | assumption | exact St.setH_self _ _ _ | exact Sep.at_ (i := 0) zq40 rfl | exact Sep.at_ (i := 1) zq40 rfl | exact Sep.at_ (i := 2) zq40 rfl | exact Sep.at_ (i := 3) zq40 rfl | exact Sep.at_ (i := 4) zq40 rfl | exact Sep.at_ (i := 5) zq40 rfl | exact Sep.at_ (i := 6) zq40 rfl); (exact rfl)))); (simp only [resOf]))))
      rw [cmp_eq0, bs_beq]
      refine KE.mk _ (Ext.refl _) ?_
      rw [show decide (some p.1 = some key) = decide (p.1 = key) from by simp] at hK
      exact hK
    · have hd : decide ((i : Int) < (ps.length : Int)) = false := decide_eq_false (by omega)
      have hpk : (keysP ps)[i]? = none := List.getElem?_eq_none (by rw [keysP_length]; omega)
      rw [hpk] at hK
      (repeat (first | ((with_reducible apply zo_end)) | ((with_reducible apply zs_noU); (exact rfl); (exact rfl); (first | assumption | exact rfl | (simp only [Bool.not_false, Bool.not_true]; assumption)); (exact rfl)) | ((with_reducible apply zs_assign); (exact rfl); (exact rfl)) | ((with_reducible apply zs_pick_f); (exact rfl); (exact rfl); (first | assumption | exact rfl); (exact rfl)) | ((with_reducible apply zr_retZ); (exact rfl); (repeat (first | exact resD_nil _ _ _ | ((with_reducible apply resD_tmp); (exact rfl)) | ((with_reducible apply resD_cell_agg); (exact rfl); (exact sh_of rfl); (first | assumption | exact St.setH_self _ _ _ | exact Sep.at_ (i := 0) zq40 rfl | exact Sep.at_ (i := 1) zq40 rfl | exact Sep.at_ (i := 2) zq40 rfl | exact Sep.at_ (i := 3) zq40 rfl | exact Sep.at_ (i := 4) zq40 rfl | exact Sep.at_ (i := 5) zq40 rfl | exact Sep.at_ (i := 6) zq40 rfl); (exact rfl)) | ((with_reducible apply resD_cell); (exact rfl); (exact sh_of rfl); (first | assumption | exact St.setH_self _ _ _ | exact Sep.at_ (i := 0) zq40 rfl | exact Sep.at_ (i := 1) zq40 rfl | exact Sep.at_ (i := 2) zq40 rfl | exact Sep.at_ (i := 3) zq40 rfl | exact Sep.at_ (i := 4) zq40 rfl | exact Sep.at_ (i := 5) zq40 rfl | exact Sep.at_ (i := 6) zq40 rfl); (exact rfl)))); (simp only [resOf]))))
      exact KE.mk _ (Ext.refl _) hK
end Go.Proofs.ZtLe
