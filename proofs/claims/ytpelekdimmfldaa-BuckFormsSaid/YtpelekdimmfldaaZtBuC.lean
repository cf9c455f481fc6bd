/- A part of the proof of BuckForms: walks of the functions that it reaches. No condition. -/
import Derived.Test.YtpelekdimmfldaaZtBuB
import Derived.Test.YtpelekdimmfldaaZm28
namespace Go.Proofs.ZtLe
open Go.RowKit Go.Proofs Go.Proofs.Zm
set_option linter.unusedVariables false
set_option linter.unusedSimpArgs false
set_option maxHeartbeats 20000000
attribute [local irreducible] ZWp ZOps ZPure ZPure0 ZVal ZOp SoundF

/-! ### buck.Code -/
def cellR (l : List CellV) : List (List D) := l.map cellD
@[simp] theorem cellR_length (l : List CellV) : (cellR l).length = l.length := by simp [cellR]
def zc : CellV := (0, 0, [])
theorem cellR_getD (l : List CellV) (i : Nat) (h : i < l.length) : (cellR l).getD i [] = cellD (l.getD i zc) := by
  rw [getD_in (by simpa using h), getD_in h]; simp [cellR]
theorem cellR_three (l : List CellV) : ∀ x ∈ cellR l, x.length = 3 := fun x hx => by
  obtain ⟨c, _, rfl⟩ := List.mem_map.1 hx; rfl
def padTo (x : List UInt8) (n : Nat) : List UInt8 := x ++ List.replicate (n - x.length) 0
def codeB (l : List CellV) (z size : Int) : Option (List UInt8) := if mayB z size = true ∧ (l.length : Int) ≤ z ∧ l.all (okC · size) = true then some (padTo (l.flatMap bytesC) (z * (8 + size)).toNat) else none
theorem okC_bounds {c : CellV} {size : Int} (h : okC c size = true) : 1 ≤ c.1 ∧ c.1 ≤ 2147483647 ∧ 0 ≤ c.2.1 ∧ c.2.1 ≤ 2147483647 ∧ (c.2.2.length : Int) = size := by
  unfold okC at h
  simp only [Bool.and_eq_true, decide_eq_true_eq] at h
  exact ⟨h.1.1.1.1, h.1.1.1.2, h.1.1.2, h.1.2, h.2⟩
theorem mayB_bounds {z size : Int} (h : mayB z size = true) : 0 ≤ z ∧ z ≤ 16 ∧ 0 ≤ size ∧ size ≤ 60000 := by
  unfold mayB at h
  simp only [Bool.and_eq_true, decide_eq_true_eq] at h
  exact ⟨h.1.1.1, h.1.1.2, h.1.2, h.2⟩
theorem bytesC_length {c : CellV} {S : Nat} (h : okC c (S : Int) = true) : (bytesC c).length = 8 + S := by
  have := (okC_bounds h).2.2.2.2
  unfold bytesC
  rw [List.length_append, List.length_append, pb4, pb4]; omega
theorem flat_length (l : List CellV) (S : Nat) (h : l.all (okC · (S : Int)) = true) : (l.flatMap bytesC).length = l.length * (8 + S) := by
  induction l with
  | nil => simp
  | cons c l ih =>
    simp only [List.all_cons, Bool.and_eq_true] at h
    rw [List.flatMap_cons, List.length_append, bytesC_length h.1, ih h.2, List.length_cons, Nat.succ_mul]; omega
theorem take_all (l : List CellV) (p : CellV → Bool) (i : Nat) (h : i < l.length) (h1 : (l.take i).all p = true) (h2 : p (l.getD i zc) = true) : (l.take (i + 1)).all p = true := by
  rw [List.take_succ_eq_append_getElem h, List.all_append, h1]
  rw [getD_in h] at h2
  simpa using h2
theorem cells_flat (l : List CellV) (i : Nat) (h : i < l.length) : (l.take (i + 1)).flatMap bytesC = (l.take i).flatMap bytesC ++ bytesC (l.getD i zc) := by
  rw [List.take_succ_eq_append_getElem h, List.flatMap_append, getD_in h]; simp
theorem zeroB (n : Nat) : (List.replicate n ([.v (.int .u8 0)] : List D)).flatten = byteC (List.replicate n 0) := by
  rw [List.flatten_replicate_singleton]; simp [byteC]

theorem room_step (X y : List UInt8) (n q : Nat) (h : X.length = n) (hq : y.length ≤ q) : (byteC (X ++ List.replicate q 0)).take (n * 1) ++ (bytesD y).flatten ++ (byteC (X ++ List.replicate q 0)).drop ((n + (bytesD y).length) * 1) = byteC ((X ++ y) ++ List.replicate (q - y.length) 0) := by
  rw [bytesD_flat, bytesD_length, Nat.mul_one, Nat.mul_one, byteC_append, byteC_append, byteC_append]
  have h1 : (byteC X).length = n := by rw [byteC_length, h]
  rw [List.take_append_of_le_length (Nat.le_of_eq h1.symm), List.take_of_length_le (Nat.le_of_eq h1), List.drop_append, List.drop_eq_nil_of_le (by omega), List.nil_append, h1]
  congr 1
  simp only [byteC, List.map_replicate, List.drop_replicate]
  congr 1
  omega
def codeSpec : ZSpec := fun args st K => ∃ (l : List CellV) (tk : Nat) (z size : Int), args = [.row (cellR l) 3 tk, .v (.int .i64 z), .v (.int .i64 size)] ∧ l.length ≤ 4611686018427387904 ∧
  ∀ o c full st', Sep st st' [(o, full)] → GRow o full 1 ((codeB l z size).getD []).length c (byteC ((codeB l z size).getD [])) → K (.tup [orow o ((codeB l z size).getD []).length c, .v (.bool (codeB l z size).isSome)]) st'
attribute [local irreducible] bytesC okC mayB
theorem code_snd : SoundF Try.prog 41 codeSpec := by
  refine sound_ofA Try.func41 rfl Try.results41 ?_
  rintro w0 args st K ⟨l, tk, z, size, rfl, hl, hKK⟩
  rw [Try.ntmps41]; refine ⟨by simp, ?_⟩
  have hK0 : codeB l z size = none → K (.tup [.v (.slice none 0 0), .v (.bool false)]) st := fun h => by
    have := hKK none 0 [] st ((Sep.nil st).addNone [])
    rw [h] at this
    exact this (GRow.empty 1)
  have hK : ∀ b, codeB l z size = some b → ∀ o c full st', Sep st st' [(o, full)] → GRow o full 1 b.length c (byteC b) → K (.tup [orow o b.length c, .v (.bool true)]) st' := fun b h o c full st' hS hg => by
    rw [h] at hKK
    exact hKK o c full st' hS hg
  clear hKK
  (repeat (first | ((with_reducible apply zr_seq)) | ((with_reducible apply zr_region); (try simp only [List.append_eq, List.cons_append, List.nil_append])) | ((with_reducible apply zo_end)) | ((with_reducible apply zs_move); (exact rfl); (exact rfl)) | ((with_reducible apply zs_assign); (exact rfl); (exact rfl)) | ((with_reducible apply zs_call may_snd cl_53); (exact rfl); (exact rfl); ((try simp only [List.append_nil]); first | exact Ups.nilrow 1 (Ups.nilrow 1 (Ups.nilrow 1 (Ups.refl _))) | exact Ups.nilrow 1 (Ups.nilrow 1 (Ups.refl _)) | exact Ups.same (Ups.nilrow 1 (Ups.nilrow 1 (Ups.refl _))) | exact Ups.nilrow 1 (Ups.same (Ups.nilrow 1 (Ups.refl _))) | exact Ups.nilrow 1 (Ups.refl _) | exact Ups.same (Ups.nilrow 1 (Ups.refl _)) | exact Ups.same (Ups.same (Ups.nilrow 1 (Ups.refl _))) | exact Ups.refl _))))
  refine ⟨z, size, rfl, ?_⟩
  (repeat (first | ((with_reducible apply zo_end)) | ((with_reducible apply zs_move); (exact rfl); (exact rfl)) | ((with_reducible apply zs_not); (exact rfl); (exact rfl)) | ((with_reducible apply zs_orB); (exact rfl); (exact rfl); (exact rfl); (intro hp_; first | exact congrArg some (gd_t hp_) | exact rfl)) | ((with_reducible apply zs_g_move); (exact rfl); (first | exact GC.t rfl rfl | exact GC.f rfl rfl | exact GC.gt rfl rfl | exact GC.gf rfl rfl); (exact rfl); (intro hc_; first | exact congrArg some (gd_t hc_) | exact congrArg some (gd_t (band_l hc_)) | exact congrArg some (gd_t (band_l (band_l hc_))) | exact rfl)) | ((with_reducible apply zs_g_gtr); (exact rfl); (first | exact GC.t rfl rfl | exact GC.f rfl rfl | exact GC.gt rfl rfl | exact GC.gf rfl rfl); (exact rfl); (intro hc_; first | exact congrArg some (gd_t hc_) | exact congrArg some (gd_t (band_l hc_)) | exact congrArg some (gd_t (band_l (band_l hc_))) | exact rfl); (intro hc_; first | exact congrArg some (gd_t hc_) | exact congrArg some (gd_t (band_l hc_)) | exact congrArg some (gd_t (band_l (band_l hc_))) | exact rfl)) | ((with_reducible apply zs_g_len); (exact rfl); (first | exact GC.t rfl rfl | exact GC.f rfl rfl | exact GC.gt rfl rfl | exact GC.gf rfl rfl); (exact rfl); (exact (by first | exact Try.underlying22 | exact Try.underlying47 | exact Try.underlying50 | exact Try.underlying59 | exact Try.underlying61 | exact Try.underlying73 | exact Try.underlying74 | exact Try.underlying78)); (intro hc_; first | exact congrArg some (gd_t hc_) | exact congrArg some (gd_t (band_l hc_)) | exact congrArg some (gd_t (band_l (band_l hc_))) | exact rfl))))
  (first | refine zr_cond rfl (fun h1 => ?_) (fun h1 => ?_) | refine zs_split rfl rfl (fun h1 => ?_) (fun h1 => ?_)) <;> have h1' := h1 <;> (try simp only [decide_eq_true_eq, decide_eq_false_iff_not, Bool.and_eq_true, Bool.or_eq_true, Bool.and_eq_false_iff, Bool.or_eq_false_iff, Bool.not_eq_true', Bool.not_eq_false', Bool.not_eq_true, Bool.not_eq_false, Int.not_le, Int.not_lt, Classical.not_not, Decidable.not_not, ne_eq, beq_iff_eq, bne_iff_ne] at h1')
  · (repeat (first | ((with_reducible apply zr_seq)) | ((with_reducible apply zr_region); (try simp only [List.append_eq, List.cons_append, List.nil_append])) | ((with_reducible apply zo_end)) | ((with_reducible apply zs_assign); (exact rfl); (exact rfl)) | ((with_reducible apply zr_retZ); (exact rfl); (repeat (first | exact resD_nil _ _ _ | ((with_reducible apply resD_tmp); (exact rfl)) | ((with_reducible apply resD_cell_agg); (exact rfl); (exact sh_Pos); (first | assumption | exact St.setH_self _ _ _); (exact rfl)) | ((with_reducible apply resD_cell_agg); (exact rfl); (exact sh_Map); (first | assumption | exact St.setH_self _ _ _); (exact rfl)) | ((with_reducible apply resD_cell_agg); (exact rfl); (exact sh_Cell); (first | assumption | exact St.setH_self _ _ _); (exact rfl)) | ((with_reducible apply resD_cell); (exact rfl); (exact sh_Poss); (first | assumption | exact St.setH_self _ _ _); (exact rfl)) | ((with_reducible apply resD_cell); (exact rfl); (exact sh_Int); (first | assumption | exact St.setH_self _ _ _); (exact rfl)) | ((with_reducible apply resD_cell); (exact rfl); (exact sh_U64); (first | assumption | exact St.setH_self _ _ _); (exact rfl)) | ((with_reducible apply resD_cell); (exact rfl); (exact sh_Row); (first | assumption | exact St.setH_self _ _ _); (exact rfl)) | ((with_reducible apply resD_cell); (exact rfl); (exact sh_Bool); (first | assumption | exact St.setH_self _ _ _); (exact rfl)) | ((with_reducible apply resD_cell); (exact rfl); (exact sh_Cells); (first | assumption | exact St.setH_self _ _ _); (exact rfl)) | ((with_reducible apply resD_cell); (exact rfl); (exact sh_U8); (first | assumption | exact St.setH_self _ _ _); (exact rfl)))); (simp only [resOf]))))
    exact KE.mk st (Ext.refl _) (hK0 (by unfold codeB; refine if_neg fun hh => ?_; simp only [cellR_length] at h1'; rcases h1' with h | h <;> first | (rw [hh.1] at h; cases h) | omega))
  simp only [cellR_length] at h1'
  obtain ⟨hmay, hlz⟩ := h1'
  obtain ⟨hz0, hz1, hs0, hs1⟩ := mayB_bounds hmay
  obtain ⟨Z, rfl⟩ := Int.eq_ofNat_of_zero_le hz0
  obtain ⟨S, rfl⟩ := Int.eq_ofNat_of_zero_le hs0
  have hlZ : l.length ≤ Z := by omega
  have hw : ((Z : Int) * (8 + (S : Int))) = ((Z * (8 + S) : Nat) : Int) := by rw [Int.natCast_mul, Int.natCast_add]; rfl
  have hwb : Z * (8 + S) ≤ 16 * 60008 := Nat.mul_le_mul (by omega) (by omega)
  (repeat (first | ((with_reducible apply zr_seq)) | ((with_reducible apply zr_region); (try simp only [List.append_eq, List.cons_append, List.nil_append])) | ((with_reducible apply zs_move); (exact rfl); (exact rfl)) | ((with_reducible apply zr_skip')) | ((with_reducible apply zs_call long_snd cl_49); (exact rfl); (exact rfl); ((try simp only [List.append_nil]); first | exact Ups.nilrow 1 (Ups.nilrow 1 (Ups.nilrow 1 (Ups.refl _))) | exact Ups.nilrow 1 (Ups.nilrow 1 (Ups.refl _)) | exact Ups.same (Ups.nilrow 1 (Ups.nilrow 1 (Ups.refl _))) | exact Ups.nilrow 1 (Ups.same (Ups.nilrow 1 (Ups.refl _))) | exact Ups.nilrow 1 (Ups.refl _) | exact Ups.same (Ups.nilrow 1 (Ups.refl _)) | exact Ups.same (Ups.same (Ups.nilrow 1 (Ups.refl _))) | exact Ups.refl _))))
  refine ⟨_, _, rfl, hz0, by omega, hs0, by omega, ?_⟩
  rw [hw]
  (try ((with_reducible apply zs_yes); exact rfl; exact rfl; (first | assumption | exact rfl))); refine zo_val rfl rfl (by decide) (zv_make_own rfl el_U8 (by simp [oneD, Value.oneCell']) (by first | exact Try.underlying22 | exact Try.underlying47 | exact Try.underlying50 | exact Try.underlying59 | exact Try.underlying61 | exact Try.underlying73 | exact Try.underlying74 | exact Try.underlying78) rfl rfl (by omega) (by omega) (by omega) fun id hid => ?_)
  rw [Int.toNat_natCast, zeroB]
  (repeat (first | ((with_reducible apply zr_seq)) | ((with_reducible apply zr_region); (try simp only [List.append_eq, List.cons_append, List.nil_append])) | ((with_reducible apply zo_end)) | ((with_reducible apply zs_move); (exact rfl); (exact rfl)) | ((with_reducible apply zs_assign); (exact rfl); (exact rfl)) | ((with_reducible apply zs_len); (exact rfl); (exact rfl); (exact (by first | exact Try.underlying22 | exact Try.underlying47 | exact Try.underlying50 | exact Try.underlying59 | exact Try.underlying61 | exact Try.underlying73 | exact Try.underlying74 | exact Try.underlying78))) | ((with_reducible apply zr_block))))
  refine zr_loopK [1, 2, 25, 26] (fun m e s => ∃ i : Nat, m + i = l.length ∧ e = [(8, .mrow id 0 (i * (8 + S)) (Z * (8 + S))), (27, .v (.int .i64 (i : Nat)))] ∧ (l.take i).all (okC · (S : Int)) = true ∧
      s = st.setH id (some (byteC ((l.take i).flatMap bytesC ++ List.replicate (Z * (8 + S) - i * (8 + S)) 0)))) l.length _ (by (repeat (first | (with_reducible exact keep_nil) | ((with_reducible apply keep_cons); (exact rfl)) | (with_reducible apply keep_skip)))) ⟨0, by simp, rfl, rfl, by simp⟩ (by refine sub_cons (by simp [zlook]) (by repeat (first | exact sub_nil _ | refine sub_cons rfl ?_ | refine sub_cons (by first | rfl | (simp [zlook]; done)) ?_))) ?_
  rintro m e s ⟨i, hm, rfl, hall, rfl⟩
  (repeat (first | ((with_reducible apply zr_seq)) | ((with_reducible apply zr_region); (try simp only [List.append_eq, List.cons_append, List.nil_append])) | ((with_reducible apply zo_end)) | ((with_reducible apply zs_lss); (exact rfl); (exact rfl); (exact rfl))))
  (first | refine zr_cond rfl (fun h2 => ?_) (fun h2 => ?_) | refine zs_split rfl rfl (fun h2 => ?_) (fun h2 => ?_)) <;> have h2' := h2 <;> (try simp only [decide_eq_true_eq, decide_eq_false_iff_not, Bool.and_eq_true, Bool.or_eq_true, Bool.and_eq_false_iff, Bool.or_eq_false_iff, Bool.not_eq_true', Bool.not_eq_false', Bool.not_eq_true, Bool.not_eq_false, Int.not_le, Int.not_lt, Classical.not_not, Decidable.not_not, ne_eq, beq_iff_eq, bne_iff_ne] at h2')
  · have hlt : i < l.length := by simp only [cellR_length] at h2'; omega
    have hcg := cellR_getD l i hlt
    have hta := take_all l (okC · (S : Int)) i hlt hall
    have htf := cells_flat l i hlt
    have hfl := flat_length (l.take i) S hall
    rw [List.length_take, Nat.min_eq_left (by omega)] at hfl
    generalize hce : l.getD i zc = c at *
    (repeat (first | ((with_reducible apply zr_seq)) | ((with_reducible apply zr_region); (try simp only [List.append_eq, List.cons_append, List.nil_append])) | ((with_reducible apply zr_block)) | ((with_reducible apply zr_skip')) | ((with_reducible apply zs_load_refA); (exact rfl); (exact rfl); (first | exact sh_Pos | exact sh_Map | exact sh_Cell); (exact rfl)) | ((with_reducible apply zs_idxE); (exact rfl); (exact rfl); (exact rfl); (exact (by first | exact Try.underlying22 | exact Try.underlying47 | exact Try.underlying50 | exact Try.underlying59 | exact Try.underlying61 | exact Try.underlying73 | exact Try.underlying74 | exact Try.underlying78)); (first | exact ii_Pos | exact ii_Poss | exact ii_Map | exact ii_Int | exact ii_U64 | exact ii_Row | exact ii_Bool | exact ii_Cell | exact ii_Cells | exact ii_U8); (first | omega | (simp only [List.length_map, List.length_take, List.length_drop, List.length_append, List.length_cons, List.length_nil, List.length_replicate]; omega) | decide); (first | omega | (simp only [List.length_map, List.length_take, List.length_drop, List.length_append, List.length_cons, List.length_nil, List.length_replicate]; omega) | decide); (first | (with_reducible exact Int.toNat_natCast _) | (simp only [Int.reduceToNat]; exact rfl) | exact rfl); (assumption))))
    (try rw [hcg])
    skip
    (first | refine zs_allocRef el_Pos (by simp [oneD, Value.oneCell']) sh_Pos rfl (fun _ => rfl) rfl (by simp [cellsD, oneD, Value.oneCell', cellD]) ?_ | refine zs_allocRef el_Poss (by simp [oneD, Value.oneCell']) sh_Poss rfl (fun _ => rfl) rfl (by simp [cellsD, oneD, Value.oneCell', cellD]) ?_ | refine zs_allocRef el_Map (by simp [oneD, Value.oneCell']) sh_Map rfl (fun _ => rfl) rfl (by simp [cellsD, oneD, Value.oneCell', cellD]) ?_ | refine zs_allocRef el_Int (by simp [oneD, Value.oneCell']) sh_Int rfl (fun _ => rfl) rfl (by simp [cellsD, oneD, Value.oneCell', cellD]) ?_ | refine zs_allocRef el_U64 (by simp [oneD, Value.oneCell']) sh_U64 rfl (fun _ => rfl) rfl (by simp [cellsD, oneD, Value.oneCell', cellD]) ?_ | refine zs_allocRef el_Row (by simp [oneD, Value.oneCell']) sh_Row rfl (fun _ => rfl) rfl (by simp [cellsD, oneD, Value.oneCell', cellD]) ?_ | refine zs_allocRef el_Bool (by simp [oneD, Value.oneCell']) sh_Bool rfl (fun _ => rfl) rfl (by simp [cellsD, oneD, Value.oneCell', cellD]) ?_ | refine zs_allocRef el_Cell (by simp [oneD, Value.oneCell']) sh_Cell rfl (fun _ => rfl) rfl (by simp [cellsD, oneD, Value.oneCell', cellD]) ?_ | refine zs_allocRef el_Cells (by simp [oneD, Value.oneCell']) sh_Cells rfl (fun _ => rfl) rfl (by simp [cellsD, oneD, Value.oneCell', cellD]) ?_ | refine zs_allocRef el_U8 (by simp [oneD, Value.oneCell']) sh_U8 rfl (fun _ => rfl) rfl (by simp [cellsD, oneD, Value.oneCell', cellD]) ?_)
    (repeat (first | ((with_reducible apply zr_seq)) | ((with_reducible apply zr_region); (try simp only [List.append_eq, List.cons_append, List.nil_append])) | ((with_reducible apply zo_end)) | ((with_reducible apply zs_move); (exact rfl); (exact rfl)) | ((with_reducible apply zs_load_refA); (exact rfl); (exact rfl); (first | exact sh_Pos | exact sh_Map | exact sh_Cell); (exact rfl)) | ((with_reducible apply zs_call cok_snd cl_54); (exact rfl); (exact rfl); ((try simp only [List.append_nil]); first | exact Ups.nilrow 1 (Ups.nilrow 1 (Ups.nilrow 1 (Ups.refl _))) | exact Ups.nilrow 1 (Ups.nilrow 1 (Ups.refl _)) | exact Ups.same (Ups.nilrow 1 (Ups.nilrow 1 (Ups.refl _))) | exact Ups.nilrow 1 (Ups.same (Ups.nilrow 1 (Ups.refl _))) | exact Ups.nilrow 1 (Ups.refl _) | exact Ups.same (Ups.nilrow 1 (Ups.refl _)) | exact Ups.same (Ups.same (Ups.nilrow 1 (Ups.refl _))) | exact Ups.refl _))))
    refine ⟨c, (S : Int), rfl, ?_⟩
    (repeat (first | ((with_reducible apply zo_end)) | ((with_reducible apply zs_not); (exact rfl); (exact rfl))))
    (first | refine zr_cond rfl (fun h3 => ?_) (fun h3 => ?_) | refine zs_split rfl rfl (fun h3 => ?_) (fun h3 => ?_)) <;> have h3' := h3 <;> (try simp only [decide_eq_true_eq, decide_eq_false_iff_not, Bool.and_eq_true, Bool.or_eq_true, Bool.and_eq_false_iff, Bool.or_eq_false_iff, Bool.not_eq_true', Bool.not_eq_false', Bool.not_eq_true, Bool.not_eq_false, Int.not_le, Int.not_lt, Classical.not_not, Decidable.not_not, ne_eq, beq_iff_eq, bne_iff_ne] at h3')
    · (repeat (first | ((with_reducible apply zr_seq)) | ((with_reducible apply zr_region); (try simp only [List.append_eq, List.cons_append, List.nil_append])) | ((with_reducible apply zo_end)) | ((with_reducible apply zs_assign); (exact rfl); (exact rfl)) | ((with_reducible apply zr_retZ); (exact rfl); (repeat (first | exact resD_nil _ _ _ | ((with_reducible apply resD_tmp); (exact rfl)) | ((with_reducible apply resD_cell_agg); (exact rfl); (exact sh_Pos); (first | assumption | exact St.setH_self _ _ _); (exact rfl)) | ((with_reducible apply resD_cell_agg); (exact rfl); (exact sh_Map); (first | assumption | exact St.setH_self _ _ _); (exact rfl)) | ((with_reducible apply resD_cell_agg); (exact rfl); (exact sh_Cell); (first | assumption | exact St.setH_self _ _ _); (exact rfl)) | ((with_reducible apply resD_cell); (exact rfl); (exact sh_Poss); (first | assumption | exact St.setH_self _ _ _); (exact rfl)) | ((with_reducible apply resD_cell); (exact rfl); (exact sh_Int); (first | assumption | exact St.setH_self _ _ _); (exact rfl)) | ((with_reducible apply resD_cell); (exact rfl); (exact sh_U64); (first | assumption | exact St.setH_self _ _ _); (exact rfl)) | ((with_reducible apply resD_cell); (exact rfl); (exact sh_Row); (first | assumption | exact St.setH_self _ _ _); (exact rfl)) | ((with_reducible apply resD_cell); (exact rfl); (exact sh_Bool); (first | assumption | exact St.setH_self _ _ _); (exact rfl)) | ((with_reducible apply resD_cell); (exact rfl); (exact sh_Cells); (first | assumption | exact St.setH_self _ _ _); (exact rfl)) | ((with_reducible apply resD_cell); (exact rfl); (exact sh_U8); (first | assumption | exact St.setH_self _ _ _); (exact rfl)))); (simp only [resOf]))))
      refine KE.mk st ((Ext.refl st).setH hid.1 _) (hK0 ?_)
      unfold codeB
      refine if_neg fun hh => ?_
      have := List.all_eq_true.1 hh.2.2 (l.getD i zc) (by rw [getD_in hlt]; exact List.getElem_mem hlt)
      rw [hce] at this
      rw [this] at h3
      cases h3
    have hok : okC c (S : Int) = true := by simpa using h3
    obtain ⟨hb1, hb2, hb3, hb4, hb5⟩ := okC_bounds hok
    have hbl := bytesC_length hok
    have hw1 : i * (8 + S) + (8 + S) = (i + 1) * (8 + S) := (Nat.succ_mul i (8 + S)).symm
    have hw2 : (i + 1) * (8 + S) ≤ Z * (8 + S) := Nat.mul_le_mul_right _ (by omega)
    (repeat (first | ((with_reducible apply zr_region); (try simp only [List.append_eq, List.cons_append, List.nil_append])) | ((with_reducible apply zs_move); (exact rfl); (exact rfl)) | ((with_reducible apply zr_skip')) | ((with_reducible apply zs_load_refA); (exact rfl); (exact rfl); (first | exact sh_Pos | exact sh_Map | exact sh_Cell); (exact rfl)) | ((with_reducible apply zs_call bytes_snd cl_55); (exact rfl); (exact rfl); ((try simp only [List.append_nil]); first | exact Ups.nilrow 1 (Ups.nilrow 1 (Ups.nilrow 1 (Ups.refl _))) | exact Ups.nilrow 1 (Ups.nilrow 1 (Ups.refl _)) | exact Ups.same (Ups.nilrow 1 (Ups.nilrow 1 (Ups.refl _))) | exact Ups.nilrow 1 (Ups.same (Ups.nilrow 1 (Ups.refl _))) | exact Ups.nilrow 1 (Ups.refl _) | exact Ups.same (Ups.nilrow 1 (Ups.refl _)) | exact Ups.same (Ups.same (Ups.nilrow 1 (Ups.refl _))) | exact Ups.refl _))))
    refine ⟨c, rfl, by omega, by omega, by omega, by omega, by omega, ?_⟩
    (try ((with_reducible apply zs_yes); exact rfl; exact rfl; (first | assumption | exact rfl))); refine zo_val rfl rfl (by decide) (zv_append_room rfl el_U8 (by first | exact Try.underlying22 | exact Try.underlying47 | exact Try.underlying50 | exact Try.underlying59 | exact Try.underlying61 | exact Try.underlying73 | exact Try.underlying74 | exact Try.underlying78) rfl (St.setH_self _ _ _) (by rw [byteC_length, List.length_append, List.length_replicate, bytesD_length, hfl, hbl]; omega) rfl (by rw [bytesD_length, hbl]; omega) ?_)
    rw [St.setH_setH, room_step _ _ _ _ hfl (by omega), ← htf, bytesD_length, hbl, hw1, show Z * (8 + S) - i * (8 + S) - (8 + S) = Z * (8 + S) - (i + 1) * (8 + S) by omega]
    (repeat (first | ((with_reducible apply zr_region); (try simp only [List.append_eq, List.cons_append, List.nil_append])) | ((with_reducible apply zo_end)) | ((with_reducible apply zo_endB)) | ((with_reducible apply zs_move); (exact rfl); (exact rfl)) | ((with_reducible apply zs_assign); (exact rfl); (exact rfl)) | ((with_reducible apply zs_add); (exact rfl); (exact rfl); (exact rfl); (exact wrap_in64 (by omega) (by omega)))))
    exact ⟨m - 1, _, by omega, ⟨i + 1, by omega, rfl, hta hok, rfl⟩, (by repeat (first | exact sub_nil _ | refine sub_cons rfl ?_ | refine sub_cons (by first | rfl | (simp [zlook]; done)) ?_)), (by repeat (first | exact sub_nil _ | refine sub_cons rfl ?_ | refine sub_cons (by first | rfl | (simp [zlook]; done)) ?_))⟩
  · have hil : i = l.length := by simp only [cellR_length] at h2'; omega
    subst hil
    rw [List.take_length] at hall
    have hfl := flat_length l S hall
    have hle : l.length * (8 + S) ≤ Z * (8 + S) := Nat.mul_le_mul_right _ hlZ
    have hcb : codeB l (Z : Int) (S : Int) = some (padTo (l.flatMap bytesC) (Z * (8 + S))) := by
      unfold codeB
      rw [if_pos ⟨hmay, by omega, hall⟩, hw, Int.toNat_natCast]
    have hpl : (padTo (l.flatMap bytesC) (Z * (8 + S))).length = Z * (8 + S) := by
      unfold padTo
      rw [List.length_append, List.length_replicate, hfl]; omega
    have hpe : (l.take l.length).flatMap bytesC ++ List.replicate (Z * (8 + S) - l.length * (8 + S)) 0 = padTo (l.flatMap bytesC) (Z * (8 + S)) := by
      unfold padTo
      rw [List.take_length, hfl]
    rw [hpe]
    (repeat (first | ((with_reducible apply zr_seq)) | ((with_reducible apply zr_region); (try simp only [List.append_eq, List.cons_append, List.nil_append])) | ((with_reducible apply zs_move); (exact rfl); (exact rfl)) | (with_reducible refine zr_exit ?_; simp only [Zthen, Zblock, ↓reduceIte]) | ((with_reducible apply zs_call long_snd cl_49); (exact rfl); (exact rfl); ((try simp only [List.append_nil]); first | exact Ups.nilrow 1 (Ups.nilrow 1 (Ups.nilrow 1 (Ups.refl _))) | exact Ups.nilrow 1 (Ups.nilrow 1 (Ups.refl _)) | exact Ups.same (Ups.nilrow 1 (Ups.nilrow 1 (Ups.refl _))) | exact Ups.nilrow 1 (Ups.same (Ups.nilrow 1 (Ups.refl _))) | exact Ups.nilrow 1 (Ups.refl _) | exact Ups.same (Ups.nilrow 1 (Ups.refl _)) | exact Ups.same (Ups.same (Ups.nilrow 1 (Ups.refl _))) | exact Ups.refl _))))
    refine ⟨_, _, rfl, hz0, by omega, hs0, by omega, ?_⟩
    rw [hw]
    obtain ⟨iU, hiU, hkU⟩ := ii_U8
    (try ((with_reducible apply zs_yes); exact rfl; exact rfl; (first | assumption | exact rfl))); refine zo_pure0 rfl rfl (by decide) (zp_cut_mrow rfl (by first | exact Try.underlying22 | exact Try.underlying47 | exact Try.underlying50 | exact Try.underlying59 | exact Try.underlying61 | exact Try.underlying73 | exact Try.underlying74 | exact Try.underlying78) hiU hkU rfl (l := 0) (h := Z * (8 + S)) rfl ⟨_, rfl⟩ (by omega) (by omega) (.inl rfl)) ?_
    (repeat (first | ((with_reducible apply zo_end)) | ((with_reducible apply zs_assign); (exact rfl); (exact rfl)) | ((with_reducible apply zr_retZ); (exact rfl); (repeat (first | exact resD_nil _ _ _ | ((with_reducible apply resD_tmp); (exact rfl)) | ((with_reducible apply resD_cell_agg); (exact rfl); (exact sh_Pos); (first | assumption | exact St.setH_self _ _ _); (exact rfl)) | ((with_reducible apply resD_cell_agg); (exact rfl); (exact sh_Map); (first | assumption | exact St.setH_self _ _ _); (exact rfl)) | ((with_reducible apply resD_cell_agg); (exact rfl); (exact sh_Cell); (first | assumption | exact St.setH_self _ _ _); (exact rfl)) | ((with_reducible apply resD_cell); (exact rfl); (exact sh_Poss); (first | assumption | exact St.setH_self _ _ _); (exact rfl)) | ((with_reducible apply resD_cell); (exact rfl); (exact sh_Int); (first | assumption | exact St.setH_self _ _ _); (exact rfl)) | ((with_reducible apply resD_cell); (exact rfl); (exact sh_U64); (first | assumption | exact St.setH_self _ _ _); (exact rfl)) | ((with_reducible apply resD_cell); (exact rfl); (exact sh_Row); (first | assumption | exact St.setH_self _ _ _); (exact rfl)) | ((with_reducible apply resD_cell); (exact rfl); (exact sh_Bool); (first | assumption | exact St.setH_self _ _ _); (exact rfl)) | ((with_reducible apply resD_cell); (exact rfl); (exact sh_Cells); (first | assumption | exact St.setH_self _ _ _); (exact rfl)) | ((with_reducible apply resD_cell); (exact rfl); (exact sh_U8); (first | assumption | exact St.setH_self _ _ _); (exact rfl)))); (simp only [resOf]))))
    have hS := (Sep.nil st).alloc hid (byteC (padTo (l.flatMap bytesC) (Z * (8 + S))))
    have hg : GRow (some id) (byteC (padTo (l.flatMap bytesC) (Z * (8 + S)))) 1 (padTo (l.flatMap bytesC) (Z * (8 + S))).length (Z * (8 + S)) (byteC (padTo (l.flatMap bytesC) (Z * (8 + S)))) :=
      ⟨by rw [byteC_length, hpl, Nat.mul_one], Nat.le_of_eq hpl, fun e => (by cases e), by rw [Nat.mul_one, List.take_of_length_le (by rw [byteC_length]; exact Nat.le_refl _)]⟩
    have := hK _ hcb (some id) _ _ _ hS hg
    rw [hpl] at this
    exact KE.mk _ (Ext.refl _) this

def codeFSpec : ZSpec := fun args st K => ∃ (l : List CellV) (tk : Nat) (z size : Int), args = [.row (cellR l) 3 tk, .v (.int .i64 z), .v (.int .i64 size)] ∧ l.length ≤ 4611686018427387904 ∧
  K (.tup [.row (bytesD ((codeB l z size).getD [])) 1 0, .v (.bool (codeB l z size).isSome)]) st
theorem codeF_snd : SoundF Try.prog 41 codeFSpec := by
  have h : SoundF Try.prog 41 fun args st K => ∃ xs b, (∃ (l : List CellV) (tk : Nat) (z size : Int), args = [.row (cellR l) 3 tk, .v (.int .i64 z), .v (.int .i64 size)] ∧ l.length ≤ 4611686018427387904 ∧ xs = bytesD ((codeB l z size).getD []) ∧ b = .v (.bool (codeB l z size).isSome)) ∧
      ∀ o c full st', Sep st st' [(o, full)] → GRow o full 1 xs.length c xs.flatten → K (.tup [orow o xs.length c, b]) st' := by
    refine code_snd.weaken ?_
    rintro args st K ⟨xs, b, ⟨l, tk, z, size, h1, h2, rfl, rfl⟩, hK⟩
    refine ⟨l, tk, z, size, h1, h2, fun o c full st' hS hg => ?_⟩
    have := hK o c full st' hS
    rw [bytesD_length, bytesD_flat] at this
    exact this hg
  exact (SoundF.frozen2 (by decide) h).weaken fun args st K ⟨l, tk, z, size, h1, h2, hK⟩ => ⟨_, _, ⟨l, tk, z, size, h1, h2, rfl, rfl⟩, bytesD_one _, hK⟩

/-! ### buck.Parse -/
def parseL (S : Nat) : Nat → List UInt8 → Option (List CellV)
  | 0, _ => some []
  | n + 1, b => if zero b = true then some [] else if okC (ofB (b.take (8 + S))) (S : Int) = true then (parseL S n (b.drop (8 + S))).map (ofB (b.take (8 + S)) :: ·) else none
def parseB (b : List UInt8) (z size : Int) : Option (List CellV) := if mayB z size = true ∧ (b.length : Int) = z * (8 + size) then parseL size.toNat z.toNat b else none
def parseSpec : ZSpec := fun args st K => ∃ (b : List UInt8) (tk : Nat) (z size : Int), args = [.row (bytesD b) 1 tk, .v (.int .i64 z), .v (.int .i64 size)] ∧ b.length ≤ 140737488355328 ∧
  K (.tup [.row (cellR ((parseB b z size).getD [])) 3 0, .v (.bool (parseB b z size).isSome)]) st
theorem parse_snd : SoundF Try.prog 43 parseSpec := by
  refine sound_ofA Try.func43 rfl Try.results43 ?_
  rintro w0 args st K ⟨b, tk, z, size, rfl, hl, hK⟩
  rw [Try.ntmps43]; refine ⟨by simp, ?_⟩
  have nope : parseB b z size = none → K (.tup [.row [] 3 0, .v (.bool false)]) st := fun h => by rw [h] at hK; exact hK
  (repeat (first | ((with_reducible apply zr_seq)) | ((with_reducible apply zr_region); (try simp only [List.append_eq, List.cons_append, List.nil_append])) | ((with_reducible apply zo_end)) | ((with_reducible apply zs_move); (exact rfl); (exact rfl)) | ((with_reducible apply zs_assign); (exact rfl); (exact rfl)) | ((with_reducible apply zs_call may_snd cl_53); (exact rfl); (exact rfl); ((try simp only [List.append_nil]); first | exact Ups.nilrow 1 (Ups.nilrow 1 (Ups.nilrow 1 (Ups.refl _))) | exact Ups.nilrow 1 (Ups.nilrow 1 (Ups.refl _)) | exact Ups.same (Ups.nilrow 1 (Ups.nilrow 1 (Ups.refl _))) | exact Ups.nilrow 1 (Ups.same (Ups.nilrow 1 (Ups.refl _))) | exact Ups.nilrow 1 (Ups.refl _) | exact Ups.same (Ups.nilrow 1 (Ups.refl _)) | exact Ups.same (Ups.same (Ups.nilrow 1 (Ups.refl _))) | exact Ups.refl _))))
  refine ⟨z, size, rfl, ?_⟩
  (repeat (first | ((with_reducible apply zs_move); (exact rfl); (exact rfl)) | ((with_reducible apply zs_not); (exact rfl); (exact rfl))))
  (first | refine zr_cond rfl (fun h1 => ?_) (fun h1 => ?_) | refine zs_split rfl rfl (fun h1 => ?_) (fun h1 => ?_)) <;> have h1' := h1 <;> (try simp only [decide_eq_true_eq, decide_eq_false_iff_not, Bool.and_eq_true, Bool.or_eq_true, Bool.and_eq_false_iff, Bool.or_eq_false_iff, Bool.not_eq_true', Bool.not_eq_false', Bool.not_eq_true, Bool.not_eq_false, Int.not_le, Int.not_lt, Classical.not_not, Decidable.not_not, ne_eq, beq_iff_eq, bne_iff_ne] at h1')
  · have hm : mayB z size = false := by simpa using h1
    (repeat (first | ((with_reducible apply zr_seq)) | ((with_reducible apply zr_region); (try simp only [List.append_eq, List.cons_append, List.nil_append])) | ((with_reducible apply zo_end)) | ((with_reducible apply zs_noU); (exact rfl); (exact rfl); (first | assumption | exact rfl | (simp only [Bool.not_false, Bool.not_true]; assumption)); (exact rfl)) | ((with_reducible apply zs_assign); (exact rfl); (exact rfl)) | ((with_reducible apply zs_pick_t); (exact rfl); (exact rfl); (first | assumption | exact rfl); (exact rfl)) | ((with_reducible apply zr_cond_t); (exact rfl); (first | assumption | exact rfl))))
    refine zr_retZ rfl (resD_nilrow (k := 3) rfl (resD_tmp rfl (resD_nil _ _ _))) ?_
    exact KE.mk st (Ext.refl _) (nope (by unfold parseB; exact if_neg fun hh => by rw [hh.1] at hm; cases hm))
  have hmay : mayB z size = true := by simpa using h1
  obtain ⟨hz0, hz1, hs0, hs1⟩ := mayB_bounds hmay
  obtain ⟨Z, rfl⟩ := Int.eq_ofNat_of_zero_le hz0
  obtain ⟨S, rfl⟩ := Int.eq_ofNat_of_zero_le hs0
  have hw : ((Z : Int) * (8 + (S : Int))) = ((Z * (8 + S) : Nat) : Int) := by rw [Int.natCast_mul, Int.natCast_add]; rfl
  have hwb : Z * (8 + S) ≤ 16 * 60008 := Nat.mul_le_mul (by omega) (by omega)
  (repeat (first | ((with_reducible apply zs_yes); (exact rfl); (exact rfl); (first | assumption | exact rfl)) | ((with_reducible apply zs_move); (exact rfl); (exact rfl)) | ((with_reducible apply zs_lenB); (exact rfl); (exact rfl); (exact (by first | exact Try.underlying22 | exact Try.underlying47 | exact Try.underlying50 | exact Try.underlying59 | exact Try.underlying61 | exact Try.underlying73 | exact Try.underlying74 | exact Try.underlying78))) | ((with_reducible apply zs_call long_snd cl_49); (exact rfl); (exact rfl); ((try simp only [List.append_nil]); first | exact Ups.nilrow 1 (Ups.nilrow 1 (Ups.nilrow 1 (Ups.refl _))) | exact Ups.nilrow 1 (Ups.nilrow 1 (Ups.refl _)) | exact Ups.same (Ups.nilrow 1 (Ups.nilrow 1 (Ups.refl _))) | exact Ups.nilrow 1 (Ups.same (Ups.nilrow 1 (Ups.refl _))) | exact Ups.nilrow 1 (Ups.refl _) | exact Ups.same (Ups.nilrow 1 (Ups.refl _)) | exact Ups.same (Ups.same (Ups.nilrow 1 (Ups.refl _))) | exact Ups.refl _))))
  refine ⟨_, _, rfl, hz0, by omega, hs0, by omega, ?_⟩
  rw [hw]
  (repeat (first | ((with_reducible apply zo_end)) | ((with_reducible apply zs_yes); (exact rfl); (exact rfl); (first | assumption | exact rfl)) | ((with_reducible apply zs_neq); (exact rfl); (exact rfl); (exact rfl)) | ((with_reducible apply zs_pick_f); (exact rfl); (exact rfl); (first | assumption | exact rfl); (exact rfl))))
  (first | refine zr_cond rfl (fun h2 => ?_) (fun h2 => ?_) | refine zs_split rfl rfl (fun h2 => ?_) (fun h2 => ?_)) <;> have h2' := h2 <;> (try simp only [decide_eq_true_eq, decide_eq_false_iff_not, Bool.and_eq_true, Bool.or_eq_true, Bool.and_eq_false_iff, Bool.or_eq_false_iff, Bool.not_eq_true', Bool.not_eq_false', Bool.not_eq_true, Bool.not_eq_false, Int.not_le, Int.not_lt, Classical.not_not, Decidable.not_not, ne_eq, beq_iff_eq, bne_iff_ne] at h2')
  · (repeat (first | ((with_reducible apply zr_seq)) | ((with_reducible apply zr_region); (try simp only [List.append_eq, List.cons_append, List.nil_append])) | ((with_reducible apply zo_end)) | ((with_reducible apply zs_assign); (exact rfl); (exact rfl))))
    refine zr_retZ rfl (resD_nilrow (k := 3) rfl (resD_tmp rfl (resD_nil _ _ _))) ?_
    exact KE.mk st (Ext.refl _) (nope (by unfold parseB; exact if_neg fun hh => h2' (by rw [← hw]; exact hh.2)))
  have hbl : b.length = Z * (8 + S) := by omega
  have hpb : parseB b (Z : Int) (S : Int) = parseL S Z b := by unfold parseB; rw [if_pos ⟨hmay, by rw [hw]; omega⟩, Int.toNat_natCast, Int.toNat_natCast]
  rw [hpb] at hK nope
  (repeat (first | ((with_reducible apply zr_seq)) | ((with_reducible apply zr_region); (try simp only [List.append_eq, List.cons_append, List.nil_append])) | ((with_reducible apply zo_end)) | ((with_reducible apply zs_assign); (exact rfl); (exact rfl)) | ((with_reducible apply zr_block)) | ((with_reducible apply zr_skip'))))
  refine zr_snil 8 rfl ?_
  refine zr_loopK [2] (fun m e s => ∃ (i : Nat) (don : List CellV) (rest : List UInt8) (t : Nat) (o : Option Nat) (c : Nat) (full : List D), m + i = Z ∧ e = [(0, .row (bytesD rest) 1 t), (8, orow o i c)] ∧ rest.length = m * (8 + S) ∧ don.length = i ∧
      Sep st s [(o, full)] ∧ GRow o full 3 i c (cellR don).flatten ∧ parseL S Z b = (parseL S m rest).map (don ++ ·)) Z _ (by (repeat (first | (with_reducible exact keep_nil) | ((with_reducible apply keep_cons); (exact rfl)) | (with_reducible apply keep_skip))))
      ⟨0, [], b, tk, none, 0, [], rfl, rfl, hbl, rfl, (Sep.nil st).addNone [], GRow.empty 3, by simp⟩ (by repeat (first | exact sub_nil _ | refine sub_cons rfl ?_ | refine sub_cons (by first | rfl | (simp [zlook]; done)) ?_)) ?_
  rintro m e s ⟨i, don, rest, t, o, c, full, hm, rfl, hrl, hdl, hS, hg, hp⟩
  have hxl : (cellR don).length = i := by rw [cellR_length, hdl]
  have hmw : m * (8 + S) ≤ Z * (8 + S) := Nat.mul_le_mul_right _ (by omega)
  (repeat (first | ((with_reducible apply zr_seq)) | ((with_reducible apply zr_region); (try simp only [List.append_eq, List.cons_append, List.nil_append])) | ((with_reducible apply zs_move); (exact rfl); (exact rfl)) | ((with_reducible apply zs_gtr); (exact rfl); (exact rfl); (exact rfl)) | ((with_reducible apply zs_lenB); (exact rfl); (exact rfl); (exact (by first | exact Try.underlying22 | exact Try.underlying47 | exact Try.underlying50 | exact Try.underlying59 | exact Try.underlying61 | exact Try.underlying73 | exact Try.underlying74 | exact Try.underlying78)))))
  (first | refine zr_cond rfl (fun h3 => ?_) (fun h3 => ?_) | refine zs_split rfl rfl (fun h3 => ?_) (fun h3 => ?_)) <;> have h3' := h3 <;> (try simp only [decide_eq_true_eq, decide_eq_false_iff_not, Bool.and_eq_true, Bool.or_eq_true, Bool.and_eq_false_iff, Bool.or_eq_false_iff, Bool.not_eq_true', Bool.not_eq_false', Bool.not_eq_true, Bool.not_eq_false, Int.not_le, Int.not_lt, Classical.not_not, Decidable.not_not, ne_eq, beq_iff_eq, bne_iff_ne] at h3')
  rotate_left
  · have hm0 : m = 0 := by
      rcases Nat.eq_zero_or_pos m with h | h
      · exact h
      · have := Nat.mul_le_mul_right (8 + S) h; omega
    subst hm0
    rw [show parseL S 0 rest = some [] from rfl, Option.map_some, List.append_nil] at hp
    rw [hp] at hK
    (repeat (first | ((with_reducible apply zr_seq)) | ((with_reducible apply zr_region); (try simp only [List.append_eq, List.cons_append, List.nil_append])) | ((with_reducible apply zo_end)) | ((with_reducible apply zs_noU); (exact rfl); (exact rfl); (first | assumption | exact rfl | (simp only [Bool.not_false, Bool.not_true]; assumption)); (exact rfl)) | ((with_reducible apply zs_move); (exact rfl); (exact rfl)) | ((with_reducible apply zs_assign); (exact rfl); (exact rfl)) | ((with_reducible apply zs_pick_f); (exact rfl); (exact rfl); (first | assumption | exact rfl); (exact rfl)) | ((with_reducible apply zr_cond_f); (exact rfl); (first | assumption | exact rfl)) | (with_reducible refine zr_exit ?_; simp only [Zthen, Zblock, ↓reduceIte])))
    refine zr_sfreeze 0 [6, 7] (cellR don) (by decide) hS rfl hg rfl (cellR_three _) (by (repeat (first | (with_reducible exact fzo_nil) | ((with_reducible apply fzo_row); (exact rfl)) | ((with_reducible apply fzo_same); (exact rfl)) | (with_reducible apply fzo_skip)))) fun s2 hS2 => ?_; (repeat (first | ((with_reducible apply zr_retZ); (exact rfl); (repeat (first | exact resD_nil _ _ _ | ((with_reducible apply resD_tmp); (exact rfl)) | ((with_reducible apply resD_cell_agg); (exact rfl); (exact sh_Pos); (first | assumption | exact St.setH_self _ _ _); (exact rfl)) | ((with_reducible apply resD_cell_agg); (exact rfl); (exact sh_Map); (first | assumption | exact St.setH_self _ _ _); (exact rfl)) | ((with_reducible apply resD_cell_agg); (exact rfl); (exact sh_Cell); (first | assumption | exact St.setH_self _ _ _); (exact rfl)) | ((with_reducible apply resD_cell); (exact rfl); (exact sh_Poss); (first | assumption | exact St.setH_self _ _ _); (exact rfl)) | ((with_reducible apply resD_cell); (exact rfl); (exact sh_Int); (first | assumption | exact St.setH_self _ _ _); (exact rfl)) | ((with_reducible apply resD_cell); (exact rfl); (exact sh_U64); (first | assumption | exact St.setH_self _ _ _); (exact rfl)) | ((with_reducible apply resD_cell); (exact rfl); (exact sh_Row); (first | assumption | exact St.setH_self _ _ _); (exact rfl)) | ((with_reducible apply resD_cell); (exact rfl); (exact sh_Bool); (first | assumption | exact St.setH_self _ _ _); (exact rfl)) | ((with_reducible apply resD_cell); (exact rfl); (exact sh_Cells); (first | assumption | exact St.setH_self _ _ _); (exact rfl)) | ((with_reducible apply resD_cell); (exact rfl); (exact sh_U8); (first | assumption | exact St.setH_self _ _ _); (exact rfl)))); (simp only [resOf])))); exact KE.mk st hS2.ext hK
  (repeat (first | ((with_reducible apply zs_yes); (exact rfl); (exact rfl); (first | assumption | exact rfl)) | ((with_reducible apply zs_move); (exact rfl); (exact rfl)) | ((with_reducible apply zs_call zero_snd cl_50); (exact rfl); (exact rfl); ((try simp only [List.append_nil]); first | exact Ups.nilrow 1 (Ups.nilrow 1 (Ups.nilrow 1 (Ups.refl _))) | exact Ups.nilrow 1 (Ups.nilrow 1 (Ups.refl _)) | exact Ups.same (Ups.nilrow 1 (Ups.nilrow 1 (Ups.refl _))) | exact Ups.nilrow 1 (Ups.same (Ups.nilrow 1 (Ups.refl _))) | exact Ups.nilrow 1 (Ups.refl _) | exact Ups.same (Ups.nilrow 1 (Ups.refl _)) | exact Ups.same (Ups.same (Ups.nilrow 1 (Ups.refl _))) | exact Ups.refl _))))
  refine ⟨rest, t, rfl, by omega, ?_⟩
  (repeat (first | ((with_reducible apply zo_end)) | ((with_reducible apply zs_yes); (exact rfl); (exact rfl); (first | assumption | exact rfl)) | ((with_reducible apply zs_not); (exact rfl); (exact rfl)) | ((with_reducible apply zs_pick_t); (exact rfl); (exact rfl); (first | assumption | exact rfl); (exact rfl))))
  obtain ⟨m', rfl⟩ : ∃ m', m = m' + 1 := ⟨m - 1, by
    rcases Nat.eq_zero_or_pos m with h | h
    · subst h; omega
    · omega⟩
  have hsm : (m' + 1) * (8 + S) = m' * (8 + S) + (8 + S) := Nat.succ_mul m' (8 + S)
  have hpl : parseL S (m' + 1) rest = if zero rest = true then some [] else if okC (ofB (rest.take (8 + S))) (S : Int) = true then (parseL S m' (rest.drop (8 + S))).map (ofB (rest.take (8 + S)) :: ·) else none := rfl
  (first | refine zr_cond rfl (fun h4 => ?_) (fun h4 => ?_) | refine zs_split rfl rfl (fun h4 => ?_) (fun h4 => ?_)) <;> have h4' := h4 <;> (try simp only [decide_eq_true_eq, decide_eq_false_iff_not, Bool.and_eq_true, Bool.or_eq_true, Bool.and_eq_false_iff, Bool.or_eq_false_iff, Bool.not_eq_true', Bool.not_eq_false', Bool.not_eq_true, Bool.not_eq_false, Int.not_le, Int.not_lt, Classical.not_not, Decidable.not_not, ne_eq, beq_iff_eq, bne_iff_ne] at h4')
  rotate_left
  · have hz : zero rest = true := by simpa using h4
    rw [hpl, if_pos hz, Option.map_some, List.append_nil] at hp
    rw [hp] at hK
    (repeat (first | ((with_reducible apply zr_seq)) | ((with_reducible apply zr_region); (try simp only [List.append_eq, List.cons_append, List.nil_append])) | ((with_reducible apply zo_end)) | ((with_reducible apply zs_move); (exact rfl); (exact rfl)) | ((with_reducible apply zs_assign); (exact rfl); (exact rfl)) | (with_reducible refine zr_exit ?_; simp only [Zthen, Zblock, ↓reduceIte])))
    refine zr_sfreeze 0 [6, 7] (cellR don) (by decide) hS rfl hg rfl (cellR_three _) (by (repeat (first | (with_reducible exact fzo_nil) | ((with_reducible apply fzo_row); (exact rfl)) | ((with_reducible apply fzo_same); (exact rfl)) | (with_reducible apply fzo_skip)))) fun s2 hS2 => ?_; (repeat (first | ((with_reducible apply zr_retZ); (exact rfl); (repeat (first | exact resD_nil _ _ _ | ((with_reducible apply resD_tmp); (exact rfl)) | ((with_reducible apply resD_cell_agg); (exact rfl); (exact sh_Pos); (first | assumption | exact St.setH_self _ _ _); (exact rfl)) | ((with_reducible apply resD_cell_agg); (exact rfl); (exact sh_Map); (first | assumption | exact St.setH_self _ _ _); (exact rfl)) | ((with_reducible apply resD_cell_agg); (exact rfl); (exact sh_Cell); (first | assumption | exact St.setH_self _ _ _); (exact rfl)) | ((with_reducible apply resD_cell); (exact rfl); (exact sh_Poss); (first | assumption | exact St.setH_self _ _ _); (exact rfl)) | ((with_reducible apply resD_cell); (exact rfl); (exact sh_Int); (first | assumption | exact St.setH_self _ _ _); (exact rfl)) | ((with_reducible apply resD_cell); (exact rfl); (exact sh_U64); (first | assumption | exact St.setH_self _ _ _); (exact rfl)) | ((with_reducible apply resD_cell); (exact rfl); (exact sh_Row); (first | assumption | exact St.setH_self _ _ _); (exact rfl)) | ((with_reducible apply resD_cell); (exact rfl); (exact sh_Bool); (first | assumption | exact St.setH_self _ _ _); (exact rfl)) | ((with_reducible apply resD_cell); (exact rfl); (exact sh_Cells); (first | assumption | exact St.setH_self _ _ _); (exact rfl)) | ((with_reducible apply resD_cell); (exact rfl); (exact sh_U8); (first | assumption | exact St.setH_self _ _ _); (exact rfl)))); (simp only [resOf])))); exact KE.mk st hS2.ext hK
  have hz : ¬ zero rest = true := by simpa using h4
  rw [if_neg hz] at hpl
  have hle8 : 8 + S ≤ rest.length := by omega
  (repeat (first | ((with_reducible apply zr_seq)) | ((with_reducible apply zr_region); (try simp only [List.append_eq, List.cons_append, List.nil_append])) | ((with_reducible apply zs_move); (exact rfl); (exact rfl)) | ((with_reducible apply zs_add); (exact rfl); (exact rfl); (exact rfl); (exact wrap_in64 (by omega) (by omega))) | ((with_reducible apply zr_block)) | ((with_reducible apply zr_skip')) | ((with_reducible apply zs_cutBhi); (exact rfl); (exact rfl); (exact (by first | exact Try.underlying22 | exact Try.underlying47 | exact Try.underlying50 | exact Try.underlying59 | exact Try.underlying61 | exact Try.underlying73 | exact Try.underlying74 | exact Try.underlying78)); (first | exact ii_Pos | exact ii_Poss | exact ii_Map | exact ii_Int | exact ii_U64 | exact ii_Row | exact ii_Bool | exact ii_Cell | exact ii_Cells | exact ii_U8); (exact rfl); (first | omega | (simp only [List.length_map, List.length_take, List.length_drop, List.length_append, List.length_cons, List.length_nil, List.length_replicate]; omega) | decide); (first | omega | (simp only [List.length_map, List.length_take, List.length_drop, List.length_append, List.length_cons, List.length_nil, List.length_replicate]; omega) | decide); (first | (with_reducible exact Int.toNat_natCast _) | (simp only [Int.reduceToNat]; exact rfl) | exact rfl)) | ((with_reducible apply zs_call of_snd cl_56); (exact rfl); (exact rfl); ((try simp only [List.append_nil]); first | exact Ups.nilrow 1 (Ups.nilrow 1 (Ups.nilrow 1 (Ups.refl _))) | exact Ups.nilrow 1 (Ups.nilrow 1 (Ups.refl _)) | exact Ups.same (Ups.nilrow 1 (Ups.nilrow 1 (Ups.refl _))) | exact Ups.nilrow 1 (Ups.same (Ups.nilrow 1 (Ups.refl _))) | exact Ups.nilrow 1 (Ups.refl _) | exact Ups.same (Ups.nilrow 1 (Ups.refl _)) | exact Ups.same (Ups.same (Ups.nilrow 1 (Ups.refl _))) | exact Ups.refl _))))
  rw [show ((8 : Int) + (S : Nat)).toNat = 8 + S by omega]
  refine ⟨_, _, rfl, by rw [List.length_take]; omega, by rw [List.length_take]; omega, ?_⟩
  generalize hcv : ofB (rest.take (8 + S)) = cv at *
  (first | refine zs_allocRef el_Pos (by simp [oneD, Value.oneCell']) sh_Pos rfl (fun _ => rfl) rfl (by simp [cellsD, oneD, Value.oneCell', cellD]) ?_ | refine zs_allocRef el_Poss (by simp [oneD, Value.oneCell']) sh_Poss rfl (fun _ => rfl) rfl (by simp [cellsD, oneD, Value.oneCell', cellD]) ?_ | refine zs_allocRef el_Map (by simp [oneD, Value.oneCell']) sh_Map rfl (fun _ => rfl) rfl (by simp [cellsD, oneD, Value.oneCell', cellD]) ?_ | refine zs_allocRef el_Int (by simp [oneD, Value.oneCell']) sh_Int rfl (fun _ => rfl) rfl (by simp [cellsD, oneD, Value.oneCell', cellD]) ?_ | refine zs_allocRef el_U64 (by simp [oneD, Value.oneCell']) sh_U64 rfl (fun _ => rfl) rfl (by simp [cellsD, oneD, Value.oneCell', cellD]) ?_ | refine zs_allocRef el_Row (by simp [oneD, Value.oneCell']) sh_Row rfl (fun _ => rfl) rfl (by simp [cellsD, oneD, Value.oneCell', cellD]) ?_ | refine zs_allocRef el_Bool (by simp [oneD, Value.oneCell']) sh_Bool rfl (fun _ => rfl) rfl (by simp [cellsD, oneD, Value.oneCell', cellD]) ?_ | refine zs_allocRef el_Cell (by simp [oneD, Value.oneCell']) sh_Cell rfl (fun _ => rfl) rfl (by simp [cellsD, oneD, Value.oneCell', cellD]) ?_ | refine zs_allocRef el_Cells (by simp [oneD, Value.oneCell']) sh_Cells rfl (fun _ => rfl) rfl (by simp [cellsD, oneD, Value.oneCell', cellD]) ?_ | refine zs_allocRef el_U8 (by simp [oneD, Value.oneCell']) sh_U8 rfl (fun _ => rfl) rfl (by simp [cellsD, oneD, Value.oneCell', cellD]) ?_)
  (repeat (first | ((with_reducible apply zr_seq)) | ((with_reducible apply zr_region); (try simp only [List.append_eq, List.cons_append, List.nil_append])) | ((with_reducible apply zo_end)) | ((with_reducible apply zs_move); (exact rfl); (exact rfl)) | ((with_reducible apply zs_load_refA); (exact rfl); (exact rfl); (first | exact sh_Pos | exact sh_Map | exact sh_Cell); (exact rfl)) | ((with_reducible apply zs_call cok_snd cl_54); (exact rfl); (exact rfl); ((try simp only [List.append_nil]); first | exact Ups.nilrow 1 (Ups.nilrow 1 (Ups.nilrow 1 (Ups.refl _))) | exact Ups.nilrow 1 (Ups.nilrow 1 (Ups.refl _)) | exact Ups.same (Ups.nilrow 1 (Ups.nilrow 1 (Ups.refl _))) | exact Ups.nilrow 1 (Ups.same (Ups.nilrow 1 (Ups.refl _))) | exact Ups.nilrow 1 (Ups.refl _) | exact Ups.same (Ups.nilrow 1 (Ups.refl _)) | exact Ups.same (Ups.same (Ups.nilrow 1 (Ups.refl _))) | exact Ups.refl _))))
  refine ⟨cv, (S : Int), rfl, ?_⟩
  (repeat (first | ((with_reducible apply zo_end)) | ((with_reducible apply zs_not); (exact rfl); (exact rfl))))
  (first | refine zr_cond rfl (fun h5 => ?_) (fun h5 => ?_) | refine zs_split rfl rfl (fun h5 => ?_) (fun h5 => ?_)) <;> have h5' := h5 <;> (try simp only [decide_eq_true_eq, decide_eq_false_iff_not, Bool.and_eq_true, Bool.or_eq_true, Bool.and_eq_false_iff, Bool.or_eq_false_iff, Bool.not_eq_true', Bool.not_eq_false', Bool.not_eq_true, Bool.not_eq_false, Int.not_le, Int.not_lt, Classical.not_not, Decidable.not_not, ne_eq, beq_iff_eq, bne_iff_ne] at h5')
  · have hok : ¬ okC cv (S : Int) = true := by simpa using h5
    rw [if_neg hok] at hpl
    rw [hpl, Option.map_none] at hp
    (repeat (first | ((with_reducible apply zr_seq)) | ((with_reducible apply zr_region); (try simp only [List.append_eq, List.cons_append, List.nil_append])) | ((with_reducible apply zo_end)) | ((with_reducible apply zs_assign); (exact rfl); (exact rfl))))
    refine zr_retZ rfl (resD_nilrow (k := 3) rfl (resD_tmp rfl (resD_nil _ _ _))) ?_
    exact KE.mk st hS.ext (nope hp)
  have hok : okC cv (S : Int) = true := by simpa using h5
  rw [if_pos hok] at hpl
  (repeat (first | ((with_reducible apply zr_seq)) | ((with_reducible apply zr_region); (try simp only [List.append_eq, List.cons_append, List.nil_append])) | ((with_reducible apply zs_move); (exact rfl); (exact rfl)) | ((with_reducible apply zr_skip')) | ((with_reducible apply zs_load_refA); (exact rfl); (exact rfl); (first | exact sh_Pos | exact sh_Map | exact sh_Cell); (exact rfl))))
  (try ((with_reducible apply zs_yes); exact rfl; exact rfl; (first | assumption | exact rfl))); refine zo_val rfl rfl (by decide) (zv_lit (xs := [.tmp 40]) rfl rfl el_Cell (by first | exact Try.underlying22 | exact Try.underlying47 | exact Try.underlying50 | exact Try.underlying59 | exact Try.underlying61 | exact Try.underlying73 | exact Try.underlying74 | exact Try.underlying78) rfl (by simp [cellsD, oneD, Value.oneCell', cellD]) (by decide) ?_)
  (try ((with_reducible apply zs_yes); exact rfl; exact rfl; (first | assumption | exact rfl))); refine zo_val rfl rfl (by decide) (zv_sapp (i := 0) rfl el_Cell (by simp [oneD, Value.oneCell']) (by first | exact Try.underlying22 | exact Try.underlying47 | exact Try.underlying50 | exact Try.underlying59 | exact Try.underlying61 | exact Try.underlying73 | exact Try.underlying74 | exact Try.underlying78) rfl hS rfl hg rfl (by simp; omega) fun o1 c1 full1 s1 hS1 hg1 => ?_)
  have hg1 : GRow o1 full1 3 (i + 1) c1 (cellR (don ++ [cv])).flatten := by
    have e : (cellR (don ++ [cv])).flatten = (cellR don).flatten ++ cellD cv := by simp [cellR]
    rw [e]; exact hg1
  (repeat (first | ((with_reducible apply zr_region); (try simp only [List.append_eq, List.cons_append, List.nil_append])) | ((with_reducible apply zo_end)) | ((with_reducible apply zo_endB)) | ((with_reducible apply zs_move); (exact rfl); (exact rfl)) | ((with_reducible apply zs_assign); (exact rfl); (exact rfl)) | ((with_reducible apply zs_add); (exact rfl); (exact rfl); (exact rfl); (exact wrap_in64 (by omega) (by omega))) | ((with_reducible apply zs_cutBlo); (exact rfl); (exact rfl); (exact (by first | exact Try.underlying22 | exact Try.underlying47 | exact Try.underlying50 | exact Try.underlying59 | exact Try.underlying61 | exact Try.underlying73 | exact Try.underlying74 | exact Try.underlying78)); (first | exact ii_Pos | exact ii_Poss | exact ii_Map | exact ii_Int | exact ii_U64 | exact ii_Row | exact ii_Bool | exact ii_Cell | exact ii_Cells | exact ii_U8); (exact rfl); (first | omega | (simp only [List.length_map, List.length_take, List.length_drop, List.length_append, List.length_cons, List.length_nil, List.length_replicate]; omega) | decide); (first | omega | (simp only [List.length_map, List.length_take, List.length_drop, List.length_append, List.length_cons, List.length_nil, List.length_replicate]; omega) | decide); (first | (with_reducible exact Int.toNat_natCast _) | (simp only [Int.reduceToNat]; exact rfl) | exact rfl))))
  rw [show ((8 : Int) + (S : Nat)).toNat = 8 + S by omega]
  refine ⟨m', _, by omega, ⟨i + 1, don ++ [cv], rest.drop (8 + S), 0, o1, c1, full1, by omega, rfl, by rw [List.length_drop]; omega, by simp [hdl], hS1, hg1, ?_⟩, (by repeat (first | exact sub_nil _ | refine sub_cons rfl ?_ | refine sub_cons (by first | rfl | (simp [zlook]; done)) ?_)), (by repeat (first | exact sub_nil _ | refine sub_cons rfl ?_ | refine sub_cons (by first | rfl | (simp [zlook]; done)) ?_))⟩
  rw [hp, hpl, Option.map_map]
  congr 1
  funext x
  simp
end Go.Proofs.ZtLe
