/- A part of the proof of PosmBounds: walks of the functions that it reaches. No condition. -/
import Derived.Test.YtpelekdimmfldaaZtPoB
namespace Go.Proofs.ZtLe
open Go.RowKit Go.Proofs Go.Proofs.Zm
set_option linter.unusedVariables false
set_option linter.unusedSimpArgs false
set_option maxHeartbeats 20000000
attribute [local irreducible] ZWp ZOps ZPure ZPure0 ZVal ZOp SoundF

/-! ### Load -/
def entL (b : List UInt8) (i : Nat) : Int × Int := (get ((b.drop (12 * i)).take 4), get (((b.drop (12 * i)).take 12).drop 4))
def okE (q : Int × Int) : Bool := decide (q.1 ≤ 65536 ∧ ¬ (q.1 = 0 ∧ 0 < q.2))
def loadM (n : Nat) (b : List UInt8) : Option PL := if b.length = 12 * n ∧ (List.range n).all (fun i => okE (entL b i)) = true then some ((List.range n).map (entL b)) else none
def curL (b : List UInt8) (n i : Nat) : PL := (List.range i).map (entL b) ++ List.replicate (n - i) (0, 0)
theorem curL_length (b : List UInt8) (n i : Nat) (h : i ≤ n) : (curL b n i).length = n := by simp [curL]; omega
theorem curL_set (b : List UInt8) (n i : Nat) (h : i < n) : (curL b n i).set i (entL b i) = curL b n (i + 1) := by
  unfold curL
  rw [List.set_append_right _ _ (by simp), List.range_succ, List.map_append, List.append_assoc]
  congr 1
  rw [show n - i = (n - (i + 1)) + 1 by omega, List.replicate_succ]
  simp
theorem curL_get (b : List UInt8) (n i : Nat) (h : i < n) : (curL b n (i + 1)).getD i (0, 0) = entL b i := by
  unfold curL
  rw [List.getD_eq_getElem?_getD, List.getElem?_append_left (by simp), List.getElem?_map, List.getElem?_range (by omega)]
  rfl
theorem get_lt (l : List UInt8) (k : Nat) (h : l.length ≤ k) (hk : k ≤ 8) : get l < 256 ^ k := by
  rw [get_short l (by omega)]
  have h1 := num_lt l
  have h2 : ((256 ^ l.length : Nat) : Int) ≤ ((256 ^ k : Nat) : Int) := Int.ofNat_le.mpr (Nat.pow_le_pow_right (by decide) h)
  rw [Int.natCast_pow, Int.natCast_pow] at h2
  exact Int.lt_of_lt_of_le h1 h2
theorem entL_bounds (b : List UInt8) (i : Nat) : 0 ≤ (entL b i).1 ∧ (entL b i).1 < 4294967296 ∧ 0 ≤ (entL b i).2 ∧ (entL b i).2 < 18446744073709551616 := by
  refine ⟨get_nonneg _, ?_, get_nonneg _, ?_⟩
  · have := get_lt ((b.drop (12 * i)).take 4) 4 (by simp; omega) (by omega)
    have e : (256 : Int) ^ 4 = 4294967296 := by decide
    unfold entL; omega
  · have := get_lt (((b.drop (12 * i)).take 12).drop 4) 8 (by simp; omega) (by omega)
    have e : (256 : Int) ^ 8 = 18446744073709551616 := by decide
    unfold entL; omega
theorem loadM_okL {n : Nat} {b : List UInt8} {l : PL} (h : loadM n b = some l) (hn : n ≤ 10000) : okL l ∧ l.length = n := by
  unfold loadM at h
  split at h
  · rename_i hc
    cases h
    refine ⟨⟨fun q hq => ?_, by simpa using hn⟩, by simp⟩
    obtain ⟨i, hi, rfl⟩ := List.mem_map.1 hq
    have hb := entL_bounds b i
    have ho := List.all_eq_true.1 hc.2 i hi
    have := of_decide_eq_true ho
    omega
  · cases h
def loadSpec : ZSpec := fun args st K => ∃ (p r : Nat) (l : PL) (b : List UInt8) (tk : Nat), args = [.ptr p 0, .row (bytesD b) 1 tk] ∧ l.length ≤ 10000 ∧ b.length ≤ 140737488355328 ∧ MapAt st p r l ∧
  (loadM l.length b = none → K (.v (.bool false)) st) ∧ (∀ l', loadM l.length b = some l' → ∀ r', Fresh st r' → K (.v (.bool true)) ((st.setH r' (some (posC l'))).setH p (some [.mrow r' 0 l'.length l'.length])))

attribute [local irreducible] entL loadM curL okE
theorem load_snd : SoundF Try.prog 33 loadSpec := by
  refine sound_ofE Try.func33 rfl Try.results33 ?_
  rintro w0 args st K ⟨p, r, l, b, tk, rfl, hl, hb, hM, hK0, hK⟩
  rw [Try.ntmps33]; refine ⟨by simp, ?_⟩
  obtain ⟨iP, hiP, hkP⟩ := ii_Pos
  have hp := hM.hp
  (repeat (first | ((with_reducible apply zr_seq)) | ((with_reducible apply zr_region); (try simp only [List.append_eq, List.cons_append, List.nil_append])) | ((with_reducible apply zo_end)) | ((with_reducible apply zs_move); (exact rfl); (exact rfl)) | ((with_reducible apply zs_assign); (exact rfl); (exact rfl)) | ((with_reducible apply zs_lenB); (exact rfl); (exact rfl); (exact (by first | exact Try.underlying22 | exact Try.underlying47 | exact Try.underlying50 | exact Try.underlying59 | exact Try.underlying61 | exact Try.underlying73 | exact Try.underlying74 | exact Try.underlying78))) | ((with_reducible apply zs_nilCheck_ptr); (exact rfl); (exact rfl)) | ((with_reducible apply zs_field_ptr); (exact rfl); (exact rfl); (first | exact fld_Pos_0 | exact fld_Pos_1 | exact fld_Map_0)) | ((with_reducible apply zs_load_ptr); (exact rfl); (exact rfl); (first | exact sh_Poss | exact sh_Int | exact sh_U64 | exact sh_Row | exact sh_Bool); (first | assumption | exact St.setH_self _ _ _); (exact rfl))))
  (try ((with_reducible apply zs_yes); exact rfl; exact rfl; (first | assumption | exact rfl))); refine zo_pure0 rfl rfl (by decide) (zp_len_mrow rfl (by first | exact Try.underlying22 | exact Try.underlying47 | exact Try.underlying50 | exact Try.underlying59 | exact Try.underlying61 | exact Try.underlying73 | exact Try.underlying74 | exact Try.underlying78) rfl) ?_
  (try ((with_reducible apply zs_yes); exact rfl; exact rfl; (first | assumption | exact rfl))); refine zo_pure0 rfl rfl (by decide) (zp_mul rfl rfl rfl (wrap_in64 (by omega) (by omega))) ?_
  (repeat (first | ((with_reducible apply zo_end)) | ((with_reducible apply zs_neq); (exact rfl); (exact rfl); (exact rfl))))
  by_cases h1 : ((b.length : Nat) : Int) ≠ 12 * (l.length : Nat)
  · have g1 : decide (((b.length : Nat) : Int) ≠ 12 * (l.length : Nat)) = true := decide_eq_true h1
    (repeat (first | ((with_reducible apply zr_seq)) | ((with_reducible apply zr_region); (try simp only [List.append_eq, List.cons_append, List.nil_append])) | ((with_reducible apply zo_end)) | ((with_reducible apply zs_assign); (exact rfl); (exact rfl)) | ((with_reducible apply zr_cond_t); (exact rfl); (first | assumption | exact rfl))))
    refine zr_retZ rfl (resD_tmp rfl (resD_nil _ _ _)) ?_
    exact KE.mk st (Ext.refl _) (hK0 (by unfold loadM; exact if_neg (by omega)))
  have g1 : decide (((b.length : Nat) : Int) ≠ 12 * (l.length : Nat)) = false := decide_eq_false h1
  have hbl : b.length = 12 * l.length := by omega
  (repeat (first | ((with_reducible apply zr_seq)) | ((with_reducible apply zr_region); (try simp only [List.append_eq, List.cons_append, List.nil_append])) | ((with_reducible apply zs_move); (exact rfl); (exact rfl)) | ((with_reducible apply zr_cond_f); (exact rfl); (first | assumption | exact rfl)) | ((with_reducible apply zr_skip')) | ((with_reducible apply zs_nilCheck_ptr); (exact rfl); (exact rfl)) | ((with_reducible apply zs_field_ptr); (exact rfl); (exact rfl); (first | exact fld_Pos_0 | exact fld_Pos_1 | exact fld_Map_0)) | ((with_reducible apply zs_load_ptr); (exact rfl); (exact rfl); (first | exact sh_Poss | exact sh_Int | exact sh_U64 | exact sh_Row | exact sh_Bool); (first | assumption | exact St.setH_self _ _ _); (exact rfl))))
  (try ((with_reducible apply zs_yes); exact rfl; exact rfl; (first | assumption | exact rfl))); refine zo_pure0 rfl rfl (by decide) (zp_len_mrow rfl (by first | exact Try.underlying22 | exact Try.underlying47 | exact Try.underlying50 | exact Try.underlying59 | exact Try.underlying61 | exact Try.underlying73 | exact Try.underlying74 | exact Try.underlying78) rfl) ?_
  (try ((with_reducible apply zs_yes); exact rfl; exact rfl; (first | assumption | exact rfl))); refine zo_val rfl rfl (by decide) (zv_make_own rfl el_Pos (by simp [oneD, Value.oneCell']) (by first | exact Try.underlying22 | exact Try.underlying47 | exact Try.underlying50 | exact Try.underlying59 | exact Try.underlying61 | exact Try.underlying73 | exact Try.underlying74 | exact Try.underlying78) rfl rfl (by omega) (by omega) (by omega) fun r' hr' => ?_)
  rw [Int.toNat_natCast, posC_replicate]
  (repeat (first | ((with_reducible apply zr_seq)) | ((with_reducible apply zr_region); (try simp only [List.append_eq, List.cons_append, List.nil_append])) | ((with_reducible apply zo_end)) | ((with_reducible apply zs_move); (exact rfl); (exact rfl)) | ((with_reducible apply zs_assign); (exact rfl); (exact rfl))))
  (try ((with_reducible apply zs_yes); exact rfl; exact rfl; (first | assumption | exact rfl))); refine zo_pure0 rfl rfl (by decide) (zp_len_mrow rfl (by first | exact Try.underlying22 | exact Try.underlying47 | exact Try.underlying50 | exact Try.underlying59 | exact Try.underlying61 | exact Try.underlying73 | exact Try.underlying74 | exact Try.underlying78) rfl) ?_
  (repeat (first | ((with_reducible apply zo_end)) | ((with_reducible apply zs_move); (exact rfl); (exact rfl)) | ((with_reducible apply zr_block))))
  have hrn := (Ext.refl st).none hr'.1
  refine zr_loopE (fun m env s => ∃ i : Nat, m + i = l.length ∧ env = [(0, .ptr p 0), (1, .row (bytesD b) 1 tk), (5, .mrow r' 0 l.length l.length), (24, .v (.int .i64 (l.length : Nat))), (25, .v (.int .i64 (i : Nat)))] ∧ s = st.setH r' (some (posC (curL b l.length i))) ∧ ∀ j, j < i → okE (entL b j) = true) l.length [(0, .ptr p 0), (1, .row (bytesD b) 1 tk), (5, .mrow r' 0 l.length l.length), (24, .v (.int .i64 (l.length : Nat))), (25, .v (.int .i64 (0 : Nat)))] (by repeat (first | exact sub_nil _ | refine sub_cons rfl ?_ | refine sub_cons (by first | rfl | (simp [zlook]; done)) ?_))
    ⟨0, rfl, rfl, by rw [show curL b l.length 0 = List.replicate l.length (0, 0) by unfold curL; simp], fun j h => by omega⟩ ?_
  rintro m env s ⟨i, hm, rfl, rfl, hok⟩
  have hM' := hM.new hr' (some (posC (curL b l.length i)))
  (repeat (first | ((with_reducible apply zr_seq)) | ((with_reducible apply zr_region); (try simp only [List.append_eq, List.cons_append, List.nil_append])) | ((with_reducible apply zo_end)) | ((with_reducible apply zs_lss); (exact rfl); (exact rfl); (exact rfl))))
  by_cases hlt : i < l.length
  · have g2 : decide ((i : Int) < (l.length : Nat)) = true := decide_eq_true (by omega)
    (repeat (first | ((with_reducible apply zr_seq)) | ((with_reducible apply zr_region); (try simp only [List.append_eq, List.cons_append, List.nil_append])) | ((with_reducible apply zo_end)) | ((with_reducible apply zs_move); (exact rfl); (exact rfl)) | ((with_reducible apply zs_assign); (exact rfl); (exact rfl)) | ((with_reducible apply zr_cond_t); (exact rfl); (first | assumption | exact rfl)) | ((with_reducible apply zr_block)) | ((with_reducible apply zr_skip'))))
    (try ((with_reducible apply zs_yes); exact rfl; exact rfl; (first | assumption | exact rfl))); refine zo_pure0 rfl rfl (by decide) (zp_mul rfl rfl rfl (wrap_in64 (by omega) (by omega))) ?_
    (repeat (first | ((with_reducible apply zs_move); (exact rfl); (exact rfl))))
    (try ((with_reducible apply zs_yes); exact rfl; exact rfl; (first | assumption | exact rfl))); refine zo_pure0 rfl rfl (by decide) (zp_mul rfl rfl rfl (wrap_in64 (by omega) (by omega))) ?_
    (repeat (first | ((with_reducible apply zs_add); (exact rfl); (exact rfl); (exact rfl); (exact wrap_in64 (by omega) (by omega)))))
    have e12 : (12 : Int) * (i : Nat) + 12 = ((12 * i + 12 : Nat) : Int) := by omega
    have e13 : (12 : Int) * (i : Nat) = ((12 * i : Nat) : Int) := by omega
    rw [e12, e13]
    (try ((with_reducible apply zs_yes); exact rfl; exact rfl; (first | assumption | exact rfl))); refine zo_pure0 rfl rfl (by decide) (zp_cutB rfl (by first | exact Try.underlying22 | exact Try.underlying47 | exact Try.underlying50 | exact Try.underlying59 | exact Try.underlying61 | exact Try.underlying73 | exact Try.underlying74 | exact Try.underlying78) sz5 rfl (l := 12 * i) (m := 12 * i + 12) ⟨_, rfl⟩ ⟨_, rfl⟩ (by omega) (by omega)) ?_
    (repeat (first | ((with_reducible apply zr_seq)) | ((with_reducible apply zo_end)) | ((with_reducible apply zs_assign); (exact rfl); (exact rfl))))
    have hxe : (b.take (12 * i + 12)).drop (12 * i) = (b.drop (12 * i)).take 12 := by rw [List.drop_take]; congr 1; omega
    rw [hxe]
    have hx12 : ((b.drop (12 * i)).take 12).length = 12 := by simp; omega
    have hent : entL b i = (get ((b.drop (12 * i)).take 4), get (((b.drop (12 * i)).take 12).drop 4)) := by unfold entL; rfl
    have hbd := entL_bounds b i
    have hx4 : ((b.drop (12 * i)).take 12).take 4 = (b.drop (12 * i)).take 4 := by rw [List.take_take]; rfl
    have hcl := curL_length b l.length i (by omega)
    have hcg := curL_get b l.length i hlt
    have hcl1 := curL_length b l.length (i + 1) (by omega)
    have hset := posC_set (curL b l.length i) i (by omega) (entL b i).1 (entL b i).2
    rw [show ((entL b i).1, (entL b i).2) = entL b i from rfl, curL_set b l.length i hlt] at hset
    have hgt := posC_get (curL b l.length (i + 1)) i (by omega)
    rw [hcg] at hgt
    have h41 : get ((b.drop (12 * i)).take 4) = (entL b i).1 := by rw [hent]
    have h42 : get (((b.drop (12 * i)).take 12).drop 4) = (entL b i).2 := by rw [hent]
    generalize hqe : entL b i = q at *
    generalize hx : (b.drop (12 * i)).take 12 = x at *
    refine za_begin (m := 12) (by kernel_rfl) rfl ?_
    refine za_take (i := 0) rfl (by kernel_rfl) (by kernel_rfl) (by kernel_rfl) (by first | exact g_none rfl | exact g_met rfl rfl rfl (by first | assumption | rfl)) rfl rfl (ZPure0.pure (zp_move rfl rfl)) ?_
    refine za_take (i := 1) rfl (by kernel_rfl) (by kernel_rfl) (by kernel_rfl) (by first | exact g_none rfl | exact g_met rfl rfl rfl (by first | assumption | rfl)) rfl rfl (ZPure0.pure (zp_move rfl rfl)) ?_
    refine za_take (i := 2) rfl (by kernel_rfl) (by kernel_rfl) (by kernel_rfl) (by first | exact g_none rfl | exact g_met rfl rfl rfl (by first | assumption | rfl)) rfl rfl (ZPure0.pure (zp_move rfl rfl)) ?_
    refine za_take (i := 6) rfl (by kernel_rfl) (by kernel_rfl) (by kernel_rfl) (by first | exact g_none rfl | exact g_met rfl rfl rfl (by first | assumption | rfl)) rfl rfl (ZPure0.pure (zp_move rfl rfl)) ?_
    refine za_take (i := 3) rfl (by kernel_rfl) (by kernel_rfl) (by kernel_rfl) (by first | exact g_none rfl | exact g_met rfl rfl rfl (by first | assumption | rfl)) rfl rfl (ZPure0.pure (zp_cutB rfl (by first | exact Try.underlying22 | exact Try.underlying47 | exact Try.underlying50 | exact Try.underlying59 | exact Try.underlying61 | exact Try.underlying73 | exact Try.underlying74 | exact Try.underlying78) sz5 rfl (l := 0) (m := 4) rfl ⟨_, rfl⟩ (by omega) (by omega))) ?_
    refine za_take (i := 7) rfl (by kernel_rfl) (by kernel_rfl) (by kernel_rfl) (by first | exact g_none rfl | exact g_met rfl rfl rfl (by first | assumption | rfl)) rfl rfl (ZPure0.pure (zp_cutB rfl (by first | exact Try.underlying22 | exact Try.underlying47 | exact Try.underlying50 | exact Try.underlying59 | exact Try.underlying61 | exact Try.underlying73 | exact Try.underlying74 | exact Try.underlying78) sz5 rfl (l := 4) (m := x.length) ⟨_, rfl⟩ rfl (by omega) (by omega))) ?_
    rw [List.drop_zero, List.take_length, hx4]
    refine za_one (i := 4) (by kernel_rfl) rfl (by first | exact g_none rfl | exact g_met rfl rfl rfl (by first | assumption | rfl)) (zop_callU get_snd Try.func20 (by kernel_rfl) rfl rfl rfl (by decide) rfl rfl (by first | exact Ups.nilrow 1 (Ups.nilrow 1 (Ups.nilrow 1 (Ups.refl _))) | exact Ups.nilrow 1 (Ups.nilrow 1 (Ups.refl _)) | exact Ups.same (Ups.nilrow 1 (Ups.nilrow 1 (Ups.refl _))) | exact Ups.nilrow 1 (Ups.same (Ups.nilrow 1 (Ups.refl _))) | exact Ups.nilrow 1 (Ups.refl _) | exact Ups.same (Ups.nilrow 1 (Ups.refl _)) | exact Ups.same (Ups.same (Ups.nilrow 1 (Ups.refl _))) | exact Ups.refl _) ?_)
    refine ⟨_, _, rfl, by simp; omega, ?_⟩
    rw [h41]
    refine za_take (i := 5) rfl (by kernel_rfl) (by kernel_rfl) (by kernel_rfl) (by first | exact g_none rfl | exact g_met rfl rfl rfl (by first | assumption | rfl)) rfl rfl (ZPure0.pure (zp_conv rfl rfl (by first | exact Try.underlying2 | exact Try.underlying3 | exact Try.underlying5 | exact Try.underlying6 | exact Try.underlying12 | exact Try.underlying21 | exact Try.underlying28 | exact Try.underlying30 | exact Try.underlying94 | exact Try.underlying95 | exact Try.underlying96 | exact Try.underlying99 | exact Try.underlying100) (by first | exact Try.underlying2 | exact Try.underlying3 | exact Try.underlying5 | exact Try.underlying6 | exact Try.underlying12 | exact Try.underlying21 | exact Try.underlying28 | exact Try.underlying30 | exact Try.underlying94 | exact Try.underlying95 | exact Try.underlying96 | exact Try.underlying99 | exact Try.underlying100) (by first | exact wrap_in64 (by omega) (by omega) | exact wrap_inU64 (by omega) (by omega)))) ?_
    refine za_one (i := 8) (by kernel_rfl) rfl (by first | exact g_none rfl | exact g_met rfl rfl rfl (by first | assumption | rfl)) (zop_callU get_snd Try.func20 (by kernel_rfl) rfl rfl rfl (by decide) rfl rfl (by first | exact Ups.nilrow 1 (Ups.nilrow 1 (Ups.nilrow 1 (Ups.refl _))) | exact Ups.nilrow 1 (Ups.nilrow 1 (Ups.refl _)) | exact Ups.same (Ups.nilrow 1 (Ups.nilrow 1 (Ups.refl _))) | exact Ups.nilrow 1 (Ups.same (Ups.nilrow 1 (Ups.refl _))) | exact Ups.nilrow 1 (Ups.refl _) | exact Ups.same (Ups.nilrow 1 (Ups.refl _)) | exact Ups.same (Ups.same (Ups.nilrow 1 (Ups.refl _))) | exact Ups.refl _) ?_)
    refine ⟨_, _, rfl, by simp; omega, ?_⟩
    rw [h42]
    refine za_take (i := 9) rfl (by kernel_rfl) (by kernel_rfl) (by kernel_rfl) (by first | exact g_none rfl | exact g_met rfl rfl rfl (by first | assumption | rfl)) rfl rfl (ZPure0.pure (zp_build (xs := [(0, .tmp 40), (1, .tmp 43)]) rfl el_Pos st_Pos rfl rfl)) ?_
    refine za_take (i := 10) rfl (by kernel_rfl) (by kernel_rfl) (by kernel_rfl) (by first | exact g_none rfl | exact g_met rfl rfl rfl (by first | assumption | rfl)) rfl rfl (ZPure0.pure (zp_index_mrow rfl (by first | exact Try.underlying22 | exact Try.underlying47 | exact Try.underlying50 | exact Try.underlying59 | exact Try.underlying61 | exact Try.underlying73 | exact Try.underlying74 | exact Try.underlying78) hiP hkP rfl rfl (by omega) (by omega))) ?_
    rw [show 0 + ((i : Nat) : Int).toNat * 2 = i * 2 by omega]
    refine za_one (i := 11) (by kernel_rfl) rfl (by first | exact g_none rfl | exact g_met rfl rfl rfl (by first | assumption | rfl)) (zop_storeC rfl rfl sh_Pos rfl (St.setH_self _ _ _) rfl rfl (by simp [cellsD, oneD, Value.oneCell']) (by rw [posC_length]; omega) hset ?_)
    rw [St.setH_setH]
    first | refine za_end (by kernel_rfl) ?_ | refine za_endB (by kernel_rfl) ?_ | refine za_endBB (by kernel_rfl) ?_
    (repeat (first | ((with_reducible apply zr_seq)) | ((with_reducible apply zr_region); (try simp only [List.append_eq, List.cons_append, List.nil_append])) | ((with_reducible apply zs_move); (exact rfl); (exact rfl))))
    (try ((with_reducible apply zs_yes); exact rfl; exact rfl; (first | assumption | exact rfl))); refine zo_pure0 rfl rfl (by decide) (zp_index_mrow rfl (by first | exact Try.underlying22 | exact Try.underlying47 | exact Try.underlying50 | exact Try.underlying59 | exact Try.underlying61 | exact Try.underlying73 | exact Try.underlying74 | exact Try.underlying78) hiP hkP rfl rfl (by omega) (by omega)) ?_
    rw [show 0 + ((i : Nat) : Int).toNat * 2 = i * 2 by omega]
    (repeat (first | ((with_reducible apply zs_field_ptr); (exact rfl); (exact rfl); (first | exact fld_Pos_0 | exact fld_Pos_1 | exact fld_Map_0))))
    (try ((with_reducible apply zs_yes); exact rfl; exact rfl; (first | assumption | exact rfl))); refine zo_val rfl rfl (by decide) (zv_load_ptr rfl sh_Int rfl (St.setH_self _ _ _) hgt.1 ?_)
    (repeat (first | ((with_reducible apply zs_move); (exact rfl); (exact rfl)) | ((with_reducible apply zs_gtr); (exact rfl); (exact rfl); (exact rfl))))
    have bad : okE q = false → KE K (.v (.bool false)) (st.setH r' (some (posC (curL b l.length (i + 1))))) := fun h => by
      refine KE.mk st ((Ext.refl st).setH hrn _) (hK0 ?_)
      unfold loadM
      refine if_neg fun hh => ?_
      have := List.all_eq_true.1 hh.2 i (List.mem_range.2 hlt)
      rw [hqe, h] at this
      cases this
    by_cases h2 : 65536 < q.1
    · have g3 : decide (65536 < q.1) = true := decide_eq_true h2
      (repeat (first | ((with_reducible apply zr_seq)) | ((with_reducible apply zr_region); (try simp only [List.append_eq, List.cons_append, List.nil_append])) | ((with_reducible apply zo_end)) | ((with_reducible apply zs_noU); (exact rfl); (exact rfl); (first | assumption | exact rfl | (simp only [Bool.not_false, Bool.not_true]; assumption)); (exact rfl)) | ((with_reducible apply zs_undef); (exact rfl); (exact rfl); (exact rfl)) | ((with_reducible apply zs_assign); (exact rfl); (exact rfl)) | ((with_reducible apply zs_pick_t); (exact rfl); (exact rfl); (first | assumption | exact rfl); (exact rfl)) | ((with_reducible apply zr_cond_t); (exact rfl); (first | assumption | exact rfl))))
      refine zr_retZ rfl (resD_tmp rfl (resD_nil _ _ _)) ?_
      exact bad (by unfold okE; exact decide_eq_false (by omega))
    have g3 : decide (65536 < q.1) = false := decide_eq_false h2
    (repeat (first | ((with_reducible apply zs_yes); (exact rfl); (exact rfl); (first | assumption | exact rfl)) | ((with_reducible apply zs_move); (exact rfl); (exact rfl))))
    (try ((with_reducible apply zs_yes); exact rfl; exact rfl; (first | assumption | exact rfl))); refine zo_pure0 rfl rfl (by decide) (zp_index_mrow rfl (by first | exact Try.underlying22 | exact Try.underlying47 | exact Try.underlying50 | exact Try.underlying59 | exact Try.underlying61 | exact Try.underlying73 | exact Try.underlying74 | exact Try.underlying78) hiP hkP rfl rfl (by omega) (by omega)) ?_
    rw [show 0 + ((i : Nat) : Int).toNat * 2 = i * 2 by omega]
    (repeat (first | ((with_reducible apply zs_yes); (exact rfl); (exact rfl); (first | assumption | exact rfl)) | ((with_reducible apply zs_field_ptr); (exact rfl); (exact rfl); (first | exact fld_Pos_0 | exact fld_Pos_1 | exact fld_Map_0))))
    (try ((with_reducible apply zs_yes); exact rfl; exact rfl; (first | assumption | exact rfl))); refine zo_val rfl rfl (by decide) (zv_load_ptr rfl sh_Int rfl (St.setH_self _ _ _) hgt.1 ?_)
    (repeat (first | ((with_reducible apply zs_yes); (exact rfl); (exact rfl); (first | assumption | exact rfl)) | ((with_reducible apply zs_move); (exact rfl); (exact rfl)) | ((with_reducible apply zs_eql); (exact rfl); (exact rfl); (exact rfl))))
    have next : okE q = true → ∀ j, j < i + 1 → okE (entL b j) = true := fun h j hj => by
      rcases Nat.lt_or_ge j i with hj2 | hj2
      · exact hok j hj2
      · obtain rfl : j = i := by omega
        rw [hqe]; exact h
    by_cases h3 : q.1 = 0
    · have g4 : decide (q.1 = 0) = true := decide_eq_true h3
      (repeat (first | ((with_reducible apply zs_yes); (exact rfl); (exact rfl); (first | assumption | exact rfl)) | ((with_reducible apply zs_move); (exact rfl); (exact rfl))))
      (try ((with_reducible apply zs_yes); exact rfl; exact rfl; (first | assumption | exact rfl))); refine zo_pure0 rfl rfl (by decide) (zp_index_mrow rfl (by first | exact Try.underlying22 | exact Try.underlying47 | exact Try.underlying50 | exact Try.underlying59 | exact Try.underlying61 | exact Try.underlying73 | exact Try.underlying74 | exact Try.underlying78) hiP hkP rfl rfl (by omega) (by omega)) ?_
      rw [show 0 + ((i : Nat) : Int).toNat * 2 = i * 2 by omega]
      (repeat (first | ((with_reducible apply zs_yes); (exact rfl); (exact rfl); (first | assumption | exact rfl)) | ((with_reducible apply zs_field_ptr); (exact rfl); (exact rfl); (first | exact fld_Pos_0 | exact fld_Pos_1 | exact fld_Map_0))))
      (try ((with_reducible apply zs_yes); exact rfl; exact rfl; (first | assumption | exact rfl))); refine zo_val rfl rfl (by decide) (zv_load_ptr rfl sh_U64 rfl (St.setH_self _ _ _) hgt.2 ?_)
      (repeat (first | ((with_reducible apply zo_end)) | ((with_reducible apply zs_yes); (exact rfl); (exact rfl); (first | assumption | exact rfl)) | ((with_reducible apply zs_gtr); (exact rfl); (exact rfl); (exact rfl)) | ((with_reducible apply zs_pick_t); (exact rfl); (exact rfl); (first | assumption | exact rfl); (exact rfl)) | ((with_reducible apply zs_pick_f); (exact rfl); (exact rfl); (first | assumption | exact rfl); (exact rfl))))
      by_cases h4 : 0 < q.2
      · have g5 : decide (0 < q.2) = true := decide_eq_true h4
        (repeat (first | ((with_reducible apply zr_seq)) | ((with_reducible apply zr_region); (try simp only [List.append_eq, List.cons_append, List.nil_append])) | ((with_reducible apply zo_end)) | ((with_reducible apply zs_assign); (exact rfl); (exact rfl)) | ((with_reducible apply zr_cond_t); (exact rfl); (first | assumption | exact rfl))))
        refine zr_retZ rfl (resD_tmp rfl (resD_nil _ _ _)) ?_
        exact bad (by unfold okE; exact decide_eq_false (by omega))
      have g5 : decide (0 < q.2) = false := decide_eq_false h4
      (repeat (first | ((with_reducible apply zr_region); (try simp only [List.append_eq, List.cons_append, List.nil_append])) | ((with_reducible apply zo_end)) | ((with_reducible apply zs_move); (exact rfl); (exact rfl)) | ((with_reducible apply zs_add); (exact rfl); (exact rfl); (exact rfl); (exact wrap_in64 (by omega) (by omega))) | ((with_reducible apply zr_cond_f); (exact rfl); (first | assumption | exact rfl)) | ((with_reducible apply zr_skipB))))
      exact ⟨m - 1, [(0, .ptr p 0), (1, .row (bytesD b) 1 tk), (5, .mrow r' 0 l.length l.length), (24, .v (.int .i64 (l.length : Nat))), (25, .v (.int .i64 ((i + 1) : Nat)))], by omega, ⟨i + 1, by omega, rfl, rfl, next (by unfold okE; exact decide_eq_true (by omega))⟩, (by repeat (first | exact sub_nil _ | refine sub_cons rfl ?_ | refine sub_cons (by first | rfl | (simp [zlook]; done)) ?_))⟩
    have g4 : decide (q.1 = 0) = false := decide_eq_false h3
    (repeat (first | ((with_reducible apply zr_region); (try simp only [List.append_eq, List.cons_append, List.nil_append])) | ((with_reducible apply zo_end)) | ((with_reducible apply zs_yes); (exact rfl); (exact rfl); (first | assumption | exact rfl)) | ((with_reducible apply zs_noU); (exact rfl); (exact rfl); (first | assumption | exact rfl | (simp only [Bool.not_false, Bool.not_true]; assumption)); (exact rfl)) | ((with_reducible apply zs_move); (exact rfl); (exact rfl)) | ((with_reducible apply zs_pick_f); (exact rfl); (exact rfl); (first | assumption | exact rfl); (exact rfl)) | ((with_reducible apply zs_add); (exact rfl); (exact rfl); (exact rfl); (exact wrap_in64 (by omega) (by omega))) | ((with_reducible apply zr_cond_f); (exact rfl); (first | assumption | exact rfl)) | ((with_reducible apply zr_skipB))))
    exact ⟨m - 1, [(0, .ptr p 0), (1, .row (bytesD b) 1 tk), (5, .mrow r' 0 l.length l.length), (24, .v (.int .i64 (l.length : Nat))), (25, .v (.int .i64 ((i + 1) : Nat)))], by omega, ⟨i + 1, by omega, rfl, rfl, next (by unfold okE; exact decide_eq_true (by omega))⟩, (by repeat (first | exact sub_nil _ | refine sub_cons rfl ?_ | refine sub_cons (by first | rfl | (simp [zlook]; done)) ?_))⟩
  · have g2 : decide ((i : Int) < (l.length : Nat)) = false := decide_eq_false (by omega)
    (repeat (first | ((with_reducible apply zr_seq)) | ((with_reducible apply zr_region); (try simp only [List.append_eq, List.cons_append, List.nil_append])) | ((with_reducible apply zs_move); (exact rfl); (exact rfl)) | ((with_reducible apply zr_cond_f); (exact rfl); (first | assumption | exact rfl)) | (with_reducible refine zr_exit ?_; simp only [Zthen, Zblock, ↓reduceIte]) | ((with_reducible apply zs_nilCheck_ptr); (exact rfl); (exact rfl)) | ((with_reducible apply zs_field_ptr); (exact rfl); (exact rfl); (first | exact fld_Pos_0 | exact fld_Pos_1 | exact fld_Map_0))))
    obtain rfl : i = l.length := by omega
    have hcl := curL_length b l.length l.length (Nat.le_refl _)
    have hload : loadM l.length b = some (curL b l.length l.length) := by
      unfold loadM
      rw [if_pos ⟨hbl, List.all_eq_true.2 fun j hj => hok j (List.mem_range.1 hj)⟩]
      unfold curL
      simp
    have hres := hK _ hload r' hr'
    rw [hcl] at hres
    refine zs_store rfl rfl sh_Poss hM'.hp rfl (by simp [cellsD, oneD]) (by simp) rfl ?_
    (repeat (first | ((with_reducible apply zr_seq)) | ((with_reducible apply zr_region); (try simp only [List.append_eq, List.cons_append, List.nil_append])) | ((with_reducible apply zo_end)) | ((with_reducible apply zs_assign); (exact rfl); (exact rfl))))
    refine zr_retZ rfl (resD_tmp rfl (resD_nil _ _ _)) ?_
    exact KE.mk _ (Ext.refl _) hres
end Go.Proofs.ZtLe
