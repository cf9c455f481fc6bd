/- A part of the proof of InneBuilds: walks of the functions that it reaches. No condition. -/
import Derived.Test.YtjkocjjcdjjdiaaZtInS
import Derived.Test.YtjkocjjcdjjdiaaZmP2
import Derived.Test.YtjkocjjcdjjdiaaZmAuto
namespace Go.Proofs.ZtLe
open Go.RowKit Go.Proofs Go.Proofs.Zm
set_option linter.unusedVariables false
set_option linter.unusedSimpArgs false
set_option maxHeartbeats 20000000
set_option maxRecDepth 100000
attribute [local irreducible] ZWp ZOps ZPure ZPure0 ZVal ZOp SoundF

/-! ### inne.Build -/
def nodesR (l : List NodeV) : List (List D) := l.map nodeD
@[simp] theorem nodesR_length (l : List NodeV) : (nodesR l).length = l.length := by simp [nodesR]
theorem nodesR_five (l : List NodeV) : ∀ x ∈ nodesR l, x.length = 5 := fun x hx => by
  obtain ⟨c, _, rfl⟩ := List.mem_map.1 hx; rfl
theorem nodesR_append (l m : List NodeV) : nodesR (l ++ m) = nodesR l ++ nodesR m := by simp [nodesR]
/-- How many nodes there are, how many kids each has, where they begin. -/
def cntB (n F : Nat) : Nat := (n + F - 1) / F
def szB (n c i : Nat) : Nat := n / c + if i < n % c then 1 else 0
def atB (n c i : Nat) : Nat := i * (n / c) + min i (n % c)
theorem atB_succ (n c i : Nat) : atB n c (i + 1) = atB n c i + szB n c i := by
  unfold atB szB
  rw [Nat.succ_mul]
  split <;> omega
theorem atB_last (n c : Nat) (h : 0 < c) : atB n c c = n := by
  unfold atB
  have h1 := Nat.div_add_mod n c
  have h2 := Nat.mod_lt n h
  rw [Nat.min_eq_right (by omega)]; exact h1
theorem atB_mono (n c : Nat) {i j : Nat} (h : i ≤ j) : atB n c i ≤ atB n c j := by
  unfold atB
  have := Nat.mul_le_mul_right (n / c) h
  omega
theorem atB_le (n c i : Nat) (h : i ≤ c) (h0 : 0 < c) : atB n c i ≤ n := by
  have := atB_mono n c h
  rw [atB_last n c h0] at this; exact this
theorem cntB_le (n F : Nat) (h : 1 ≤ n) (hF : 1 ≤ F) : 1 ≤ cntB n F ∧ cntB n F ≤ n := by
  unfold cntB
  obtain ⟨a, rfl⟩ : ∃ a, n = a + 1 := ⟨n - 1, by omega⟩
  obtain ⟨b, rfl⟩ : ∃ b, F = b + 1 := ⟨F - 1, by omega⟩
  refine ⟨(Nat.one_le_div_iff (by omega)).2 (by omega), Nat.div_le_of_le_mul ?_⟩
  rw [Nat.add_mul, Nat.mul_add]
  have := Nat.zero_le (b * a)
  omega
def nodeB (ids : List Int) (firsts : List Bs) (c i : Nat) : NodeV := ⟨false, (firsts.take (atB ids.length c i + szB ids.length c i)).drop (atB ids.length c i + 1), [], (ids.take (atB ids.length c i + szB ids.length c i)).drop (atB ids.length c i), []⟩
def nodesB (ids : List Int) (firsts : List Bs) (c i : Nat) : List NodeV := (List.range i).map (nodeB ids firsts c)
theorem nodesB_succ (ids : List Int) (firsts : List Bs) (c i : Nat) : nodesB ids firsts c (i + 1) = nodesB ids firsts c i ++ [nodeB ids firsts c i] := by
  unfold nodesB; rw [List.range_succ, List.map_append]; rfl
theorem nodesB_length (ids : List Int) (firsts : List Bs) (c i : Nat) : (nodesB ids firsts c i).length = i := by simp [nodesB]
def buildOwn : ZSpec := fun args st K => ∃ (c : CfgV) (F : Nat) (ids : List Int) (firsts : List Bs) (ti tf : Nat), args = [.agg (cfgD c), .row (intR ids) 1 ti, .row (rowR firsts) 1 tf] ∧ c.f = (F : Int) ∧ 1 ≤ F ∧ F ≤ 1000000 ∧ 1 ≤ ids.length ∧ ids.length ≤ 1000000 ∧ firsts.length = ids.length ∧ KB firsts ∧
  ∀ o q f st', Sep st st' [(o, f)] → GRow o f 5 (cntB ids.length F) q (nodesR (nodesB ids firsts (cntB ids.length F) (cntB ids.length F))).flatten → K (orow o (cntB ids.length F) q) st'
theorem build_own : SoundF Try.prog 27 buildOwn := by
  refine sound_ofA Try.func27 rfl Try.results27 ?_
  rintro w0 args st K ⟨c, F, ids, firsts, ti, tf, rfl, hF, hF1, hF2, hn1, hn2, hfl, hkb, hK⟩
  rw [Try.ntmps27]; refine ⟨by simp, ?_⟩
  refine zr_as 1 (.row (intR ids) 1 0) rfl zq4 ?_
  refine zr_as 2 (.row (rowR firsts) 1 0) rfl zq4 ?_
  have hS := Sep.nil st
  have hr1 : (intR ids).length = ids.length := intR_length _
  have hr2 : (rowR firsts).length = firsts.length := rowR_length _
  obtain ⟨hc1, hc2⟩ := cntB_le ids.length F hn1 hF1
  obtain ⟨q, hq⟩ : ∃ q, q = cntB ids.length F := ⟨_, rfl⟩
  rw [← hq] at hK hc1 hc2
  have hb0 : c.f ≠ 0 := by omega
  have hquo : IntKind.i64.wrap ((((intR ids).length : Nat) + c.f - 1).tdiv c.f) = (q : Int) := by
    rw [hr1, hF, Int.tdiv_eq_ediv_of_nonneg (by omega), hq]
    have e : ((ids.length : Nat) : Int) + (F : Int) - 1 = ((ids.length + F - 1 : Nat) : Int) := by omega
    rw [e, ← Int.natCast_ediv]
    unfold cntB at *
    exact wrap_in64 (by omega) (by omega)
  (repeat (first | ((with_reducible apply zr_seq)) | ((with_reducible apply zr_region); (try simp only [List.append_eq, List.cons_append, List.nil_append])) | ((with_reducible apply zo_end)) | ((with_reducible apply zs_move); (exact rfl); (exact rfl)) | ((with_reducible apply zs_assign); (exact rfl); (exact rfl)) | ((with_reducible apply zs_lss); (exact rfl); (exact rfl); (exact rfl)) | ((with_reducible apply zs_field_ref); (exact rfl); (exact rfl); (exact fld_of rfl)) | ((with_reducible apply zs_load_ref); (exact rfl); (exact rfl); (exact sh_of rfl); (exact rfl)) | ((with_reducible apply zs_orB); (exact rfl); (exact rfl); (exact rfl); (intro hp_; first | exact congrArg some (gd_t hp_) | exact rfl)) | ((with_reducible apply (zs_boxRef (t := 3))); (exact rfl); (exact rfl)) | ((with_reducible apply (zs_h_move [])); (exact rfl); (first | exact GC.t rfl rfl | exact GC.f rfl rfl | exact GC.gt rfl rfl | exact GC.gf rfl rfl); (exact rfl); (intro hc_; first | exact congrArg some (gd_t hc_) | exact congrArg some (gd_t (band_l hc_)) | exact congrArg some (gd_t (band_l (band_l hc_))) | exact rfl)) | ((with_reducible apply (zs_h_eql [])); (exact rfl); (first | exact GC.t rfl rfl | exact GC.f rfl rfl | exact GC.gt rfl rfl | exact GC.gf rfl rfl); (exact rfl); (intro hc_; first | exact congrArg some (gd_t hc_) | exact congrArg some (gd_t (band_l hc_)) | exact congrArg some (gd_t (band_l (band_l hc_))) | exact rfl); (intro hc_; first | exact congrArg some (gd_t hc_) | exact congrArg some (gd_t (band_l hc_)) | exact congrArg some (gd_t (band_l (band_l hc_))) | exact rfl)) | ((with_reducible apply (zs_h_neq [])); (exact rfl); (first | exact GC.t rfl rfl | exact GC.f rfl rfl | exact GC.gt rfl rfl | exact GC.gf rfl rfl); (exact rfl); (intro hc_; first | exact congrArg some (gd_t hc_) | exact congrArg some (gd_t (band_l hc_)) | exact congrArg some (gd_t (band_l (band_l hc_))) | exact rfl); (intro hc_; first | exact congrArg some (gd_t hc_) | exact congrArg some (gd_t (band_l hc_)) | exact congrArg some (gd_t (band_l (band_l hc_))) | exact rfl)) | ((with_reducible apply (zs_h_len [])); (exact rfl); (first | exact GC.t rfl rfl | exact GC.f rfl rfl | exact GC.gt rfl rfl | exact GC.gf rfl rfl); (exact rfl); (exact un_sl rfl); (intro hc_; first | exact congrArg some (gd_t hc_) | exact congrArg some (gd_t (band_l hc_)) | exact congrArg some (gd_t (band_l (band_l hc_))) | exact rfl))))
  (first | refine zr_cond rfl (fun h0 => ?_) (fun h0 => ?_) | refine zs_split rfl rfl (fun h0 => ?_) (fun h0 => ?_)) <;> have h0' := h0 <;> (try simp only [decide_eq_true_eq, decide_eq_false_iff_not, Bool.and_eq_true, Bool.or_eq_true, Bool.and_eq_false_iff, Bool.or_eq_false_iff, Bool.not_eq_true', Bool.not_eq_false', Bool.not_eq_true, Bool.not_eq_false, Int.not_le, Int.not_lt, Classical.not_not, Decidable.not_not, ne_eq, beq_iff_eq, bne_iff_ne] at h0')
  · exfalso
    omega
  (repeat (first | ((with_reducible apply zr_seq)) | ((with_reducible apply zr_region); (try simp only [List.append_eq, List.cons_append, List.nil_append])) | ((with_reducible apply zs_move); (exact rfl); (exact rfl)) | ((with_reducible apply zs_add); (exact rfl); (exact rfl); (exact rfl); (first | (with_reducible assumption) | exact wrap_in64 (by omega) (by omega))) | ((with_reducible apply zs_sub); (exact rfl); (exact rfl); (exact rfl); (first | (with_reducible assumption) | exact wrap_in64 (by omega) (by omega))) | ((with_reducible apply zs_len); (exact rfl); (exact rfl); (exact un_sl rfl)) | ((with_reducible apply zr_skip')) | ((with_reducible apply zs_field_ref); (exact rfl); (exact rfl); (exact fld_of rfl)) | ((with_reducible apply zs_load_ref); (exact rfl); (exact rfl); (exact sh_of rfl); (exact rfl))))
  (try ((with_reducible apply zs_yes); exact rfl; exact rfl; (first | assumption | exact rfl))); refine zo_pure0 rfl rfl (by decide) (zp_quo rfl rfl rfl hb0 hquo) ?_
  (repeat (first | ((with_reducible apply zr_seq)) | ((with_reducible apply zr_region); (try simp only [List.append_eq, List.cons_append, List.nil_append])) | ((with_reducible apply zo_end)) | ((with_reducible apply zs_move); (exact rfl); (exact rfl)) | ((with_reducible apply zs_assign); (exact rfl); (exact rfl)) | ((with_reducible apply zr_block))))
  clear hquo h0 h0'
  replace hS := hS.addNone []
  refine zr_loopK [1, 2, 7, 39] (fun m e s => ∃ i o c' f, m + i = q ∧ e = [(8, orow o i c'), (9, .v (.int .i64 (atB ids.length q i : Nat))), (40, .v (.int .i64 (i : Nat)))] ∧ Zm.Sep st s [(o, f)] ∧ GRow o f 5 i c' (nodesR (nodesB ids firsts q i)).flatten) q _ zq18 ⟨0, none, 0, [], by simp, (by unfold atB; simp; rfl), hS, GRow.empty 5⟩ zq21 ?_
  rintro m e s ⟨i, o, c', f, hm, rfl, hS, hg⟩
  (repeat (first | ((with_reducible apply zr_seq)) | ((with_reducible apply zr_region); (try simp only [List.append_eq, List.cons_append, List.nil_append])) | ((with_reducible apply zo_end)) | ((with_reducible apply zs_lss); (exact rfl); (exact rfl); (exact rfl))))
  (first | refine zr_cond rfl (fun h1 => ?_) (fun h1 => ?_) | refine zs_split rfl rfl (fun h1 => ?_) (fun h1 => ?_)) <;> have h1' := h1 <;> (try simp only [decide_eq_true_eq, decide_eq_false_iff_not, Bool.and_eq_true, Bool.or_eq_true, Bool.and_eq_false_iff, Bool.or_eq_false_iff, Bool.not_eq_true', Bool.not_eq_false', Bool.not_eq_true, Bool.not_eq_false, Int.not_le, Int.not_lt, Classical.not_not, Decidable.not_not, ne_eq, beq_iff_eq, bne_iff_ne] at h1')
  · have hqd : IntKind.i64.wrap ((((intR ids).length : Nat) : Int).tdiv (q : Int)) = ((ids.length / q : Nat) : Int) := by
      rw [hr1, Int.tdiv_eq_ediv_of_nonneg (by omega), ← Int.natCast_ediv]
      have := Nat.div_le_self ids.length q
      generalize ids.length / q = z at *
      exact wrap_in64 (by omega) (by omega)
    have hqm : (((intR ids).length : Nat) : Int).tmod (q : Int) = ((ids.length % q : Nat) : Int) := by
      rw [hr1, Int.tmod_eq_emod_of_nonneg (by omega), ← Int.natCast_emod]
    have hq0 : (q : Int) ≠ 0 := by omega
    have hsu := atB_succ ids.length q i
    have hle := atB_le ids.length q (i + 1) (by omega) (by omega)
    have hdl := Nat.div_le_self ids.length q
    obtain ⟨A, hA⟩ : ∃ A, A = atB ids.length q i := ⟨_, rfl⟩
    obtain ⟨Z, hZ⟩ : ∃ Z, Z = szB ids.length q i := ⟨_, rfl⟩
    rw [← hA, ← hZ] at hsu
    rw [hsu] at hle
    have hwA : IntKind.i64.wrap ((A : Int) + (Z : Int)) = ((A + Z : Nat) : Int) := by rw [wrap_in64 (by omega) (by omega)]; rfl
    have hwA1 : IntKind.i64.wrap ((A : Int) + 1) = ((A + 1 : Nat) : Int) := by rw [wrap_in64 (by omega) (by omega)]; rfl
    have hZ1 : 1 ≤ Z := by
      rw [hZ]; unfold szB
      have : 1 ≤ ids.length / q := (Nat.one_le_div_iff (by omega)).2 hc2
      omega
    rw [← hA]
    (repeat (first | ((with_reducible apply zr_seq)) | ((with_reducible apply zr_region); (try simp only [List.append_eq, List.cons_append, List.nil_append])) | ((with_reducible apply zo_end)) | ((with_reducible apply zs_move); (exact rfl); (exact rfl)) | ((with_reducible apply zs_assign); (exact rfl); (exact rfl)) | ((with_reducible apply zs_len); (exact rfl); (exact rfl); (exact un_sl rfl)) | ((with_reducible apply zr_block)) | ((with_reducible apply zr_skip'))))
    (try ((with_reducible apply zs_yes); exact rfl; exact rfl; (first | assumption | exact rfl))); refine zo_pure0 rfl rfl (by decide) (zp_quo rfl rfl rfl hq0 hqd) ?_
    (repeat (first | ((with_reducible apply zr_seq)) | ((with_reducible apply zr_region); (try simp only [List.append_eq, List.cons_append, List.nil_append])) | ((with_reducible apply zo_end)) | ((with_reducible apply zs_move); (exact rfl); (exact rfl)) | ((with_reducible apply zs_assign); (exact rfl); (exact rfl)) | ((with_reducible apply zs_len); (exact rfl); (exact rfl); (exact un_sl rfl))))
    (try ((with_reducible apply zs_yes); exact rfl; exact rfl; (first | assumption | exact rfl))); refine zo_pure0 rfl rfl (by decide) (zp_rem rfl rfl rfl hq0 hqm) ?_
    (repeat (first | ((with_reducible apply zo_end)) | ((with_reducible apply zs_lss); (exact rfl); (exact rfl); (exact rfl))))
    refine zr_cutK [1, 2, 7, 8, 9, 39, 40] (fun e s' => e = [(11, .v (.int .i64 (Z : Nat)))] ∧ s' = s) zq18 ?_ ?_
    · (first | refine zr_cond rfl (fun h2 => ?_) (fun h2 => ?_) | refine zs_split rfl rfl (fun h2 => ?_) (fun h2 => ?_)) <;> have h2' := h2 <;> (try simp only [decide_eq_true_eq, decide_eq_false_iff_not, Bool.and_eq_true, Bool.or_eq_true, Bool.and_eq_false_iff, Bool.or_eq_false_iff, Bool.not_eq_true', Bool.not_eq_false', Bool.not_eq_true, Bool.not_eq_false, Int.not_le, Int.not_lt, Classical.not_not, Decidable.not_not, ne_eq, beq_iff_eq, bne_iff_ne] at h2')
      · have e : Z = ids.length / q + 1 := by rw [hZ]; unfold szB; rw [if_pos (by omega)]
        rw [e]
        (repeat (first | ((with_reducible apply zr_region); (try simp only [List.append_eq, List.cons_append, List.nil_append])) | ((with_reducible apply zo_end)) | ((with_reducible apply zs_move); (exact rfl); (exact rfl)) | ((with_reducible apply zs_assign); (exact rfl); (exact rfl)) | ((with_reducible apply zs_add); (exact rfl); (exact rfl); (exact rfl); (first | (with_reducible assumption) | exact wrap_in64 (by omega) (by omega)))))
        exact ⟨_, ⟨rfl, rfl⟩, zq21, zq21⟩
      · have e : Z = ids.length / q := by rw [hZ]; unfold szB; rw [if_neg (by omega)]; rfl
        rw [e]
        (repeat (first | ((with_reducible apply zr_skip'))))
        exact ⟨_, ⟨rfl, rfl⟩, zq21, zq21⟩
    rintro e s' ⟨rfl, rfl⟩
    (repeat (first | ((with_reducible apply zr_seq)) | ((with_reducible apply zr_region); (try simp only [List.append_eq, List.cons_append, List.nil_append])) | ((with_reducible apply zs_move); (exact rfl); (exact rfl)) | ((with_reducible apply zs_add); (exact rfl); (exact rfl); (exact rfl); (first | (with_reducible assumption) | exact wrap_in64 (by omega) (by omega))) | ((with_reducible apply zs_cut); (exact rfl); (exact rfl); (exact un_sl rfl); (exact ii_of rfl); (exact rfl); (exact rfl); (first | omega | (simp only [List.length_map, List.length_take, List.length_drop, List.length_append, List.length_cons, List.length_nil, List.length_replicate, rowR_length, intR_length, msgR_length, pairR_length, nodesR_length]; omega) | decide); (first | omega | (simp only [List.length_map, List.length_take, List.length_drop, List.length_append, List.length_cons, List.length_nil, List.length_replicate, rowR_length, intR_length, msgR_length, pairR_length, nodesR_length]; omega) | decide); (first | omega | (simp only [List.length_map, List.length_take, List.length_drop, List.length_append, List.length_cons, List.length_nil, List.length_replicate, rowR_length, intR_length, msgR_length, pairR_length, nodesR_length]; omega) | decide); (first | (with_reducible exact Int.toNat_natCast _) | (simp only [Int.reduceToNat]; exact rfl) | exact rfl); (first | (with_reducible exact Int.toNat_natCast _) | (simp only [Int.reduceToNat]; exact rfl) | exact rfl))))
    rw [intR_take, intR_drop]
    have hkd : ((ids.take (A + Z)).drop A).length ≤ 17179869184 := by rw [List.length_drop, List.length_take]; omega
    (repeat (first | ((with_reducible apply (zs_sstore (i := 0))); (exact rfl); (exact rfl); (exact sh_of rfl); (assumption); (exact rfl); (first | exact rfl | (simp [cells_orow])); ((try rw [cells_orow]); (repeat (first | exact one_nil | (apply one_cons; (first | exact rfl | exact one_orow _ _ _))))); (first | exact Nat.le_of_ble_eq_true rfl | omega | (focus (simp [cellsD, msgD, nodeD, pairD, cfgD]; done))); (first | (simp only [cells_orow, cD_int, cD_bool, cD_float, cD_nil, cD_ptr0, cD_str, cD_row, cD_mrow, cD_ptr, cD_ref, cD_fn, cD_agg, List.take_zero, List.take_succ_cons, List.take_nil, List.drop_succ_cons, List.drop_zero, List.drop_nil, List.nil_append, List.cons_append, List.append_nil, Nat.zero_add, Nat.reduceAdd]; exact rfl) | exact rfl); (intro sS hS); (try simp only [List.set_cons_zero, List.set_cons_succ] at hS)) | ((with_reducible apply zr_seq)) | ((with_reducible apply zr_region); (try simp only [List.append_eq, List.cons_append, List.nil_append])) | ((with_reducible apply zo_end)) | ((with_reducible apply zs_move); (exact rfl); (exact rfl)) | ((with_reducible apply zs_add); (exact rfl); (exact rfl); (exact rfl); (first | (with_reducible assumption) | exact wrap_in64 (by omega) (by omega))) | ((with_reducible apply zs_len); (exact rfl); (exact rfl); (exact un_sl rfl)) | ((with_reducible apply zr_block)) | ((with_reducible apply zs_build); (exact rfl); (exact el_of rfl); (exact st_of rfl); (exact rfl); (first | (simp only [fillD, cellsD, cells_orow, List.take_zero, List.take_succ_cons, List.take_nil, List.drop_succ_cons, List.drop_zero, List.drop_nil, List.nil_append, List.cons_append, List.append_nil, Nat.zero_add, Nat.reduceAdd, List.length_cons, List.length_nil]; exact rfl) | ((repeat (apply fillD_cons; exact rfl; (first | exact rfl | simp [cells_orow]); (exact Nat.le_of_ble_eq_true rfl); (simp only [cells_orow, cD_int, cD_bool, cD_float, cD_nil, cD_ptr0, cD_str, cD_row, cD_mrow, cD_ptr, cD_ref, cD_fn, cD_agg, List.take_zero, List.take_succ_cons, List.take_nil, List.drop_succ_cons, List.drop_zero, List.drop_nil, List.nil_append, List.cons_append, List.append_nil, Nat.zero_add, Nat.reduceAdd]; exact rfl))); exact rfl) | exact rfl)) | ((with_reducible apply zs_cut); (exact rfl); (exact rfl); (exact un_sl rfl); (exact ii_of rfl); (exact rfl); (exact rfl); (first | omega | (simp only [List.length_map, List.length_take, List.length_drop, List.length_append, List.length_cons, List.length_nil, List.length_replicate, rowR_length, intR_length, msgR_length, pairR_length, nodesR_length]; omega) | decide); (first | omega | (simp only [List.length_map, List.length_take, List.length_drop, List.length_append, List.length_cons, List.length_nil, List.length_replicate, rowR_length, intR_length, msgR_length, pairR_length, nodesR_length]; omega) | decide); (first | omega | (simp only [List.length_map, List.length_take, List.length_drop, List.length_append, List.length_cons, List.length_nil, List.length_replicate, rowR_length, intR_length, msgR_length, pairR_length, nodesR_length]; omega) | decide); (first | (with_reducible exact Int.toNat_natCast _) | (simp only [Int.reduceToNat]; exact rfl) | exact rfl); (first | (with_reducible exact Int.toNat_natCast _) | (simp only [Int.reduceToNat]; exact rfl) | exact rfl)) | ((with_reducible apply (zs_callQ cloneI_pf cl_41)); (exact rfl); (exact rfl); ((repeat (first | exact DLes.nil | (apply DLes.cons; first | exact DLe.refl _ | exact DLe.nilB | exact DLe.nilR | exact DLe.nilI | exact dle_awC | exact dle_awN)))); (first | exact trivial | assumption | ((repeat' (with_reducible refine And.intro ?_ ?_)) <;> first | assumption | omega | exact trivial | (simp; done) | (simp; omega)))) | ((with_reducible apply (zs_salloc (t := 12))); (exact rfl); (exact el_of rfl); (simp [oneD, Value.oneCell']); (assumption); (intro a12 sS hS))))
    rw [rowR_take, rowR_drop]
    obtain ⟨kd, hkde⟩ : ∃ kd, kd = (ids.take (A + Z)).drop A := ⟨_, rfl⟩
    obtain ⟨fs, hfs⟩ : ∃ fs, fs = (firsts.take (A + Z)).drop (A + 1) := ⟨_, rfl⟩
    rw [← hkde] at hS ⊢
    rw [← hfs]
    have hfsl : fs.length ≤ 1000000 := by rw [hfs, List.length_drop, List.length_take]; omega
    have hfr : (rowR fs).length = fs.length := rowR_length _
    replace hS := hS.addNone []
    refine zr_loopK [1, 2, 7, 8, 9, 11, 12, 39, 40, 69, 70] (fun m' e s => ∃ j ok ck fk, m' + j = fs.length ∧ e = [(71, .v (.int .i64 (j : Nat)))] ∧ Zm.Sep st s [(ok, fk), (some a12, [.v (.bool false), orow ok j ck, .v (.slice none 0 0), .row (intR kd) 1 0, .v (.slice none 0 0)]), (o, f)] ∧ GRow ok fk 1 j ck (rowR (fs.take j)).flatten) fs.length _ zq18 ⟨0, none, 0, [], by simp, rfl, hS, GRow.empty 1⟩ zq21 ?_
    rintro m' e s'' ⟨j, ok, ck, fk, hm', rfl, hS, hgk⟩
    have hg0 := hg
    (repeat (first | ((with_reducible apply zr_seq)) | ((with_reducible apply zr_region); (try simp only [List.append_eq, List.cons_append, List.nil_append])) | ((with_reducible apply zo_end)) | ((with_reducible apply zs_lss); (exact rfl); (exact rfl); (exact rfl))))
    (first | refine zr_cond rfl (fun h3 => ?_) (fun h3 => ?_) | refine zs_split rfl rfl (fun h3 => ?_) (fun h3 => ?_)) <;> have h3' := h3 <;> (try simp only [decide_eq_true_eq, decide_eq_false_iff_not, Bool.and_eq_true, Bool.or_eq_true, Bool.and_eq_false_iff, Bool.or_eq_false_iff, Bool.not_eq_true', Bool.not_eq_false', Bool.not_eq_true, Bool.not_eq_false, Int.not_le, Int.not_lt, Classical.not_not, Decidable.not_not, ne_eq, beq_iff_eq, bne_iff_ne] at h3')
    · obtain ⟨b, hb, hbt, _, hbg⟩ := eltK (l := fs) (i := j) (by omega)
      have hbl : b.length ≤ 2147483648 := hkb.2 b (by rw [hfs] at hb; exact List.mem_of_mem_take (List.mem_of_mem_drop (List.mem_of_getElem? hb)))
      have hg := hgk
      (repeat (first | ((with_reducible apply zr_seq)) | ((with_reducible apply zr_region); (try simp only [List.append_eq, List.cons_append, List.nil_append])) | ((with_reducible apply zo_end)) | ((with_reducible apply zs_assign); (exact rfl); (exact rfl)) | ((with_reducible apply zr_block)) | ((with_reducible apply zr_skip')) | ((with_reducible apply zs_load_ref); (exact rfl); (exact rfl); (exact sh_of rfl); (exact rfl)) | ((with_reducible apply zs_idxE); (exact rfl); (exact rfl); (exact rfl); (exact un_sl rfl); (exact ii_of rfl); (first | omega | (simp only [List.length_map, List.length_take, List.length_drop, List.length_append, List.length_cons, List.length_nil, List.length_replicate, rowR_length, intR_length, msgR_length, pairR_length, nodesR_length]; omega) | decide); (first | omega | (simp only [List.length_map, List.length_take, List.length_drop, List.length_append, List.length_cons, List.length_nil, List.length_replicate, rowR_length, intR_length, msgR_length, pairR_length, nodesR_length]; omega) | decide); (first | (with_reducible exact Int.toNat_natCast _) | (simp only [Int.reduceToNat]; exact rfl) | exact rfl); (assumption))))
      refine zc_begin (m := 8) ([(a12, [.v (.bool false), orow ok j ck, .v (.slice none 0 0), .row (intR kd) 1 0, .v (.slice none 0 0)])]) [7] (by kernel_rfl) rfl ?_
      refine zc_take0 (i := 0) rfl (by kernel_rfl) (by kernel_rfl) (by kernel_rfl) (by kernel_rfl) zq25 rfl rfl zq17 ?_
      first | (refine zc_take0 (i := 1) rfl (by kernel_rfl) (by kernel_rfl) (by kernel_rfl) (by kernel_rfl) zq25 rfl rfl (zp_load_ref rfl zq33 rfl rfl) ?_) | (refine zc_take0 (i := 1) rfl (by kernel_rfl) (by kernel_rfl) (by kernel_rfl) (by kernel_rfl) zq25 rfl rfl (zp_load_refAll rfl zq33 rfl rfl) ?_) | (refine zc_take (i := 1) rfl (by kernel_rfl) (by kernel_rfl) (by kernel_rfl) (by kernel_rfl) (by kernel_rfl) (by kernel_rfl) zq25 rfl rfl (zpb_load rfl zq33 rfl (.head _) rfl zq27) ?_) | (refine zc_take (i := 1) rfl (by kernel_rfl) (by kernel_rfl) (by kernel_rfl) (by kernel_rfl) (by kernel_rfl) (by kernel_rfl) zq25 rfl rfl (zpb_load rfl zq33 rfl (.tail _ (.head _)) rfl zq27) ?_) | (refine zc_take (i := 1) rfl (by kernel_rfl) (by kernel_rfl) (by kernel_rfl) (by kernel_rfl) (by kernel_rfl) (by kernel_rfl) zq25 rfl rfl (zpb_load rfl zq33 rfl (.tail _ (.tail _ (.head _))) rfl zq27) ?_) | (refine zc_take (i := 1) rfl (by kernel_rfl) (by kernel_rfl) (by kernel_rfl) (by kernel_rfl) (by kernel_rfl) (by kernel_rfl) zq25 rfl rfl (zpb_load_agg rfl zq33 rfl (.head _) rfl rfl zq30) ?_) | (refine zc_take (i := 1) rfl (by kernel_rfl) (by kernel_rfl) (by kernel_rfl) (by kernel_rfl) (by kernel_rfl) (by kernel_rfl) zq25 rfl rfl (zpb_load_agg rfl zq33 rfl (.tail _ (.head _)) rfl rfl zq30) ?_) | (refine zc_take (i := 1) rfl (by kernel_rfl) (by kernel_rfl) (by kernel_rfl) (by kernel_rfl) (by kernel_rfl) (by kernel_rfl) zq25 rfl rfl (zpb_load_agg rfl zq33 rfl (.tail _ (.tail _ (.head _))) rfl rfl zq30) ?_)
      refine zc_take0 (i := 2) rfl (by kernel_rfl) (by kernel_rfl) (by kernel_rfl) (by kernel_rfl) zq25 rfl rfl (ZPure0.pure (zp_move rfl rfl)) ?_
      refine zc_one (i := 3) (fun _ => by first | assumption | (repeat (first | exact BOwn.nil _ | refine BOwn.cons zq6 ?_))) (by kernel_rfl) rfl zq25 (zop_callQ clone_pf cl_30 rfl rfl (by decide) rfl rfl zq13 zq11 ?_)
      refine zc_one_val (i := 4) (fun _ => by first | assumption | (repeat (first | exact BOwn.nil _ | refine BOwn.cons zq6 ?_))) (by kernel_rfl) rfl zq25 rfl rfl (zv_litR (xs := [.tmp 78]) _ rfl rfl rfl zq34 zq31 (by simp only [List.map_cons, List.map_nil, cellsD]; exact rfl) zq14 (by decide) ?_)
      first | (refine zc_one_val (i := 5) (fun _ => by first | assumption | (repeat (first | exact BOwn.nil _ | refine BOwn.cons zq6 ?_))) (by kernel_rfl) rfl zq25 rfl rfl (zv_sappR (i := 0) rfl rfl rfl zq34 zq31 zq29 (by assumption) rfl (by assumption) zq8 (fun o1 c1 f1 sS hS hg => ?_))) | (refine zc_one_val (i := 5) (fun _ => by first | assumption | (repeat (first | exact BOwn.nil _ | refine BOwn.cons zq6 ?_))) (by kernel_rfl) rfl zq25 rfl rfl (zv_sappR (i := 1) rfl rfl rfl zq34 zq31 zq29 (by assumption) rfl (by assumption) zq8 (fun o1 c1 f1 sS hS hg => ?_))) | (refine zc_one_val (i := 5) (fun _ => by first | assumption | (repeat (first | exact BOwn.nil _ | refine BOwn.cons zq6 ?_))) (by kernel_rfl) rfl zq25 rfl rfl (zv_sappR (i := 2) rfl rfl rfl zq34 zq31 zq29 (by assumption) rfl (by assumption) zq8 (fun o1 c1 f1 sS hS hg => ?_))) | (refine zc_one_val (i := 5) (fun _ => by first | assumption | (repeat (first | exact BOwn.nil _ | refine BOwn.cons zq6 ?_))) (by kernel_rfl) rfl zq25 rfl rfl (zv_sappR (i := 3) rfl rfl rfl zq34 zq31 zq29 (by assumption) rfl (by assumption) zq8 (fun o1 c1 f1 sS hS hg => ?_))) | (refine zc_one_val (i := 5) (fun _ => by first | assumption | (repeat (first | exact BOwn.nil _ | refine BOwn.cons zq6 ?_))) (by kernel_rfl) rfl zq25 rfl rfl (zv_sappR (i := 4) rfl rfl rfl zq34 zq31 zq29 (by assumption) rfl (by assumption) zq8 (fun o1 c1 f1 sS hS hg => ?_))) | (refine zc_one_val (i := 5) (fun _ => by first | assumption | (repeat (first | exact BOwn.nil _ | refine BOwn.cons zq6 ?_))) (by kernel_rfl) rfl zq25 rfl rfl (zv_sappR (i := 5) rfl rfl rfl zq34 zq31 zq29 (by assumption) rfl (by assumption) zq8 (fun o1 c1 f1 sS hS hg => ?_)))
      (try simp only [List.set_cons_zero, List.set_cons_succ] at hS)
      refine zc_take0 (i := 6) rfl (by kernel_rfl) (by kernel_rfl) (by kernel_rfl) (by kernel_rfl) zq25 rfl rfl zq17 ?_
      first | (refine zc_one (i := 7) (fun _ => by first | assumption | (repeat (first | exact BOwn.nil _ | refine BOwn.cons zq6 ?_))) (by kernel_rfl) rfl zq25 (zop_sstore (i := 0) rfl rfl rfl rfl zq33 (by assumption) rfl zq28 zq20 zq23 zq5 fun sS hS => ?_)) | (refine zc_one (i := 7) (fun _ => by first | assumption | (repeat (first | exact BOwn.nil _ | refine BOwn.cons zq6 ?_))) (by kernel_rfl) rfl zq25 (zop_sstore (i := 1) rfl rfl rfl rfl zq33 (by assumption) rfl zq28 zq20 zq23 zq5 fun sS hS => ?_)) | (refine zc_one (i := 7) (fun _ => by first | assumption | (repeat (first | exact BOwn.nil _ | refine BOwn.cons zq6 ?_))) (by kernel_rfl) rfl zq25 (zop_sstore (i := 2) rfl rfl rfl rfl zq33 (by assumption) rfl zq28 zq20 zq23 zq5 fun sS hS => ?_)) | (refine zc_one (i := 7) (fun _ => by first | assumption | (repeat (first | exact BOwn.nil _ | refine BOwn.cons zq6 ?_))) (by kernel_rfl) rfl zq25 (zop_sstore (i := 3) rfl rfl rfl rfl zq33 (by assumption) rfl zq28 zq20 zq23 zq5 fun sS hS => ?_)) | (refine zc_one (i := 7) (fun _ => by first | assumption | (repeat (first | exact BOwn.nil _ | refine BOwn.cons zq6 ?_))) (by kernel_rfl) rfl zq25 (zop_sstore (i := 4) rfl rfl rfl rfl zq33 (by assumption) rfl zq28 zq20 zq23 zq5 fun sS hS => ?_)) | (refine zc_one (i := 7) (fun _ => by first | assumption | (repeat (first | exact BOwn.nil _ | refine BOwn.cons zq6 ?_))) (by kernel_rfl) rfl zq25 (zop_sstore (i := 5) rfl rfl rfl rfl zq33 (by assumption) rfl zq28 zq20 zq23 zq5 fun sS hS => ?_))
      (try simp only [List.set_cons_zero, List.set_cons_succ] at hS)
      first | refine zc_end (fun hcl_ => absurd hcl_ (by decide)) (by kernel_rfl) ?_ | refine zc_endB (fun hcl_ => absurd hcl_ (by decide)) (by kernel_rfl) ?_ | refine zc_endBB (fun hcl_ => absurd hcl_ (by decide)) (by kernel_rfl) ?_ | refine zc_done (fun hcl_ => absurd hcl_ (by decide)) (by kernel_rfl) ?_
      (repeat (first | ((with_reducible apply zr_region); (try simp only [List.append_eq, List.cons_append, List.nil_append])) | ((with_reducible apply zo_end)) | ((with_reducible apply zs_move); (exact rfl); (exact rfl)) | ((with_reducible apply zs_add); (exact rfl); (exact rfl); (exact rfl); (first | (with_reducible assumption) | exact wrap_in64 (by omega) (by omega)))))
      exact ⟨m' - 1, _, by omega, ⟨j + 1, o1, c1, f1, by omega, rfl, hS, by rw [hbt, rowR_append, List.flatten_append]; exact hg⟩, zq21, zq21⟩
    · have hj : j = fs.length := by omega
      subst hj
      rw [List.take_length] at hgk
      refine zr_freezeK (id := a12) [1, 2, 7, 8, 9, 11, 12, 39, 40] (hS.at_ (i := 1) rfl) zq9 rfl ?_
      replace hS := hS.drop (i := 1) rfl
      simp only [List.eraseIdx_cons_succ, List.eraseIdx_cons_zero] at hS
      refine zr_sfz (env1 := _) 0 [1, 2, 7, 8, 9, 11, 12, 39, 40] (rowR fs) (by decide) hS rfl hgk rfl (rowR_one _) (fzd_cons rfl .same (fzd_cons rfl .same (fzd_cons rfl .same (fzd_cons rfl .same (fzd_cons rfl .same (fzd_cons rfl .same (fzd_cons rfl (DFz.ref (.cons .same (.cons .row (.cons (DFz.nilrow (k := 1)) (.cons .same (.cons (DFz.nilrow (k := 3)) .nil)))))) (fzd_cons rfl .same (fzd_cons rfl .same fzd_nil))))))))) fun sS hS => ?_
      simp only [List.eraseIdx_cons_succ, List.eraseIdx_cons_zero] at hS
      have hx : nodeB ids firsts q i = ⟨false, fs, [], kd, []⟩ := by unfold nodeB; rw [← hA, ← hZ, ← hfs, ← hkde]
      (repeat (first | ((with_reducible apply zr_seq)) | ((with_reducible apply zr_region); (try simp only [List.append_eq, List.cons_append, List.nil_append])) | ((with_reducible apply zo_end)) | ((with_reducible apply zo_endB)) | ((with_reducible apply zs_move); (exact rfl); (exact rfl)) | ((with_reducible apply zs_assign); (exact rfl); (exact rfl)) | ((with_reducible apply zs_add); (exact rfl); (exact rfl); (exact rfl); (first | (with_reducible assumption) | exact wrap_in64 (by omega) (by omega))) | (with_reducible refine zr_exit ?_; simp only [Zthen, Zblock, ↓reduceIte]) | ((with_reducible apply zs_load_refAll); (exact rfl); (exact rfl); (exact sh_of rfl); (exact rfl)) | ((with_reducible apply (zs_lit (t := 85) [.tmp 84])); (exact rfl); (exact rfl); (exact rfl); (exact rfl); (exact un_sl rfl); (exact el_of rfl); (simp only [List.map_cons, List.map_nil, cellsD]; exact rfl); ((repeat (first | exact lit_nil | (apply lit_cons; exact rfl; (repeat (first | exact one_nil | (apply one_cons; (first | exact rfl | exact one_orow _ _ _)))))))); (decide)) | ((with_reducible apply (zs_sapp (i := 0))); (exact rfl); (exact rfl); (exact rfl); (exact un_sl rfl); (exact el_of rfl); (simp [oneD, Value.oneCell']); (assumption); (exact rfl); (assumption); (simp only [List.length_map, List.length_cons, List.length_nil, List.length_take, List.length_drop, List.length_append, rowR_length, intR_length, msgR_length, pairR_length, nodesR_length]; omega); (intro o1 c1 f1 sS hS hg); (try simp only [List.set_cons_zero, List.set_cons_succ] at hS))))
      refine ⟨m - 1, [(8, orow o1 (i + 1) c1), (9, .v (.int .i64 ((A + Z : Nat) : Int))), (40, .v (.int .i64 ((i + 1 : Nat) : Int)))], by omega, ⟨i + 1, o1, c1, f1, by omega, by rw [hsu], hS, ?_⟩, zq21, zq21⟩
      rw [nodesB_succ, nodesR_append, List.flatten_append, hx]
      exact hg
  · have hi : i = q := by omega
    subst hi
    (repeat (first | ((with_reducible apply zr_seq)) | ((with_reducible apply zr_region); (try simp only [List.append_eq, List.cons_append, List.nil_append])) | ((with_reducible apply zo_end)) | ((with_reducible apply zs_move); (exact rfl); (exact rfl)) | ((with_reducible apply zs_assign); (exact rfl); (exact rfl)) | (with_reducible refine zr_exit ?_; simp only [Zthen, Zblock, ↓reduceIte]) | ((with_reducible apply zr_retZ); (exact rfl); (repeat (first | exact resD_nil _ _ _ | ((with_reducible apply resD_tmp); (exact rfl)) | ((with_reducible apply resD_cell_agg); (exact rfl); (exact sh_of rfl); (first | assumption | exact St.setH_self _ _ _ | exact Sep.at_ (i := 0) (by assumption) rfl | exact Sep.at_ (i := 1) (by assumption) rfl | exact Sep.at_ (i := 2) (by assumption) rfl | exact Sep.at_ (i := 3) (by assumption) rfl | exact Sep.at_ (i := 4) (by assumption) rfl | exact Sep.at_ (i := 5) (by assumption) rfl | exact Sep.at_ (i := 6) (by assumption) rfl); (exact rfl)) | ((with_reducible apply resD_cell); (exact rfl); (exact sh_of rfl); (first | assumption | exact St.setH_self _ _ _ | exact Sep.at_ (i := 0) (by assumption) rfl | exact Sep.at_ (i := 1) (by assumption) rfl | exact Sep.at_ (i := 2) (by assumption) rfl | exact Sep.at_ (i := 3) (by assumption) rfl | exact Sep.at_ (i := 4) (by assumption) rfl | exact Sep.at_ (i := 5) (by assumption) rfl | exact Sep.at_ (i := 6) (by assumption) rfl); (exact rfl)))); (simp only [resOf]))))
    exact KE.mk _ (Ext.refl _) (hK _ _ _ _ hS hg)
theorem build_pf {c : CfgV} {F : Nat} {ids : List Int} {firsts : List Bs} {ti tf : Nat} (h : c.f = (F : Int) ∧ 1 ≤ F ∧ F ≤ 1000000 ∧ 1 ≤ ids.length ∧ ids.length ≤ 1000000 ∧ firsts.length = ids.length ∧ KB firsts) : PureF Try.prog 27 [.agg (cfgD c), .row (intR ids) 1 ti, .row (rowR firsts) 1 tf] (.row (nodesR (nodesB ids firsts (cntB ids.length F) (cntB ids.length F))) 5 0) :=
  PureF.ofOwn fun st K hK => ⟨buildOwn, build_own, c, F, ids, firsts, ti, tf, rfl, h.1, h.2.1, h.2.2.1, h.2.2.2.1, h.2.2.2.2.1, h.2.2.2.2.2.1, h.2.2.2.2.2.2, fun o q f st' hS hg => by
    obtain ⟨e1, k1⟩ := OR.mk_ok (by decide) hg rfl (nodesR_five _)
    refine hK [⟨o, f, 5, q, nodesR (nodesB ids firsts (cntB ids.length F) (cntB ids.length F))⟩] st' _ hS (fun r hr => ?_) fun G hr => ?_
    · simp only [List.mem_cons, List.not_mem_nil, or_false] at hr
      subst hr; assumption
    · have r1 := hr _ (.head _)
      unfold OR.own OR.row at r1
      simp only at r1
      rw [e1] at r1
      exact r1⟩
end Go.Proofs.ZtLe
