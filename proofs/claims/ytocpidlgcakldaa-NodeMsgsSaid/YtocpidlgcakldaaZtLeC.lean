/- A part of the proof of NodeMsgs: walks of the functions that it reaches. No condition. -/
import Derived.Test.YtocpidlgcakldaaZtLeB
import Derived.Test.YtocpidlgcakldaaZmAuto
namespace Go.Proofs.ZtLe
open Go.RowKit Go.Proofs Go.Proofs.Zm
set_option linter.unusedVariables false
set_option linter.unusedSimpArgs false
set_option maxHeartbeats 20000000
set_option maxRecDepth 100000
attribute [local irreducible] ZWp ZOps ZPure ZPure0 ZVal ZOp SoundF

/-! ### le.Unpad -/
def unpadL (l : List UInt8) (most : Int) : Option (List UInt8) :=
  if 0 ≤ most ∧ most ≤ 60000 ∧ (l.length : Int) = most + 2 then
    (if get (l.take 2) ≤ most ∧ zero (l.drop (2 + (get (l.take 2)).toNat)) = true then some ((l.take (2 + (get (l.take 2)).toNat)).drop 2) else none) else none

theorem get_nonneg (l : List UInt8) : 0 ≤ get l := by unfold get; exact num_nonneg _
theorem get2_lt (l : List UInt8) : get (l.take 2) < 65536 := by
  have h := num_lt ((l.take 2).take 8)
  have h2 : ((l.take 2).take 8).length ≤ 2 := by simp; omega
  have : (256 : Int) ^ ((l.take 2).take 8).length ≤ 256 ^ 2 := by
    have h8 : ((256 ^ ((l.take 2).take 8).length : Nat) : Int) ≤ ((256 ^ 2 : Nat) : Int) := Int.ofNat_le.mpr (Nat.pow_le_pow_right (by decide) h2)
    rw [Int.natCast_pow, Int.natCast_pow] at h8
    exact h8
  unfold get
  omega

def unpadSpec : ZSpec := fun args st K => ∃ (l : List UInt8) (tk : Nat) (most : Int), args = [.row (bytesD l) 1 tk, .v (.int .i64 most)] ∧ l.length ≤ 140737488355328 ∧
  ∀ t, st.T t = false → t ≠ 0 → K (.tup [.row (bytesD ((unpadL l most).getD [])) 1 t, .v (.bool (unpadL l most).isSome)]) (st.setT t true)

theorem unpad_snd : SoundF Try.prog 49 unpadSpec := by
  refine sound_of Try.func49 rfl Try.results49 ?_
  rintro w0 args st K ⟨l, tk, most, rfl, hl, hK⟩
  rw [Try.ntmps49]; refine ⟨by simp, ?_⟩
  (repeat (first | ((with_reducible apply zr_seq)) | ((with_reducible apply zr_region); (try simp only [List.append_eq, List.cons_append, List.nil_append])) | ((with_reducible apply zo_end)) | ((with_reducible apply zs_move); (exact rfl); (exact rfl)) | ((with_reducible apply zs_assign); (exact rfl); (exact rfl)) | ((with_reducible apply zs_lss); (exact rfl); (exact rfl); (exact rfl))))
  by_cases h1 : most < 0
  · have g1 : decide (most < 0) = true := decide_eq_true h1
    (repeat (first | ((with_reducible apply zr_seq)) | ((with_reducible apply zr_region); (try simp only [List.append_eq, List.cons_append, List.nil_append])) | ((with_reducible apply zo_end)) | ((with_reducible apply zs_noU); (exact rfl); (exact rfl); (first | assumption | exact rfl | (simp only [Bool.not_false, Bool.not_true]; assumption)); (exact rfl)) | ((with_reducible apply zs_move); (exact rfl); (exact rfl)) | ((with_reducible apply zs_assign); (exact rfl); (exact rfl)) | ((with_reducible apply zs_pick_t); (exact rfl); (exact rfl); (first | assumption | exact rfl); (exact rfl)) | ((with_reducible apply zr_cond_t); (exact rfl); (first | assumption | exact rfl))))
    refine zr_nil 4 1 rfl fun t ht ht0 => ?_; refine zr_retZ rfl (resD_tmp rfl (resD_tmp rfl (resD_nil _ _ _))) ?_; have := hK t ht ht0; rw [show unpadL l most = none from by unfold unpadL; exact if_neg (by omega)] at this; exact this
  have g1 : decide (most < 0) = false := decide_eq_false h1
  (repeat (first | ((with_reducible apply zs_yes); (exact rfl); (exact rfl); (first | assumption | exact rfl)) | ((with_reducible apply zs_move); (exact rfl); (exact rfl)) | ((with_reducible apply zs_gtr); (exact rfl); (exact rfl); (exact rfl)) | ((with_reducible apply zs_pick_f); (exact rfl); (exact rfl); (first | assumption | exact rfl); (exact rfl))))
  by_cases h2 : 60000 < most
  · have g2 : decide (60000 < most) = true := decide_eq_true h2
    (repeat (first | ((with_reducible apply zr_seq)) | ((with_reducible apply zr_region); (try simp only [List.append_eq, List.cons_append, List.nil_append])) | ((with_reducible apply zo_end)) | ((with_reducible apply zs_noU); (exact rfl); (exact rfl); (first | assumption | exact rfl | (simp only [Bool.not_false, Bool.not_true]; assumption)); (exact rfl)) | ((with_reducible apply zs_assign); (exact rfl); (exact rfl)) | ((with_reducible apply zs_pick_t); (exact rfl); (exact rfl); (first | assumption | exact rfl); (exact rfl)) | ((with_reducible apply zr_cond_t); (exact rfl); (first | assumption | exact rfl))))
    refine zr_nil 4 1 rfl fun t ht ht0 => ?_; refine zr_retZ rfl (resD_tmp rfl (resD_tmp rfl (resD_nil _ _ _))) ?_; have := hK t ht ht0; rw [show unpadL l most = none from by unfold unpadL; exact if_neg (by omega)] at this; exact this
  have g2 : decide (60000 < most) = false := decide_eq_false h2
  (repeat (first | ((with_reducible apply zo_end)) | ((with_reducible apply zs_yes); (exact rfl); (exact rfl); (first | assumption | exact rfl)) | ((with_reducible apply zs_move); (exact rfl); (exact rfl)) | ((with_reducible apply zs_neq); (exact rfl); (exact rfl); (exact rfl)) | ((with_reducible apply zs_pick_f); (exact rfl); (exact rfl); (first | assumption | exact rfl); (exact rfl)) | ((with_reducible apply zs_add); (exact rfl); (exact rfl); (exact rfl); (first | (with_reducible assumption) | exact wrap_in64 (by omega) (by omega))) | ((with_reducible apply zs_lenB); (exact rfl); (exact rfl); (exact un_sl rfl))))
  by_cases h3 : ((l.length : Nat) : Int) ≠ most + 2
  · have g3 : decide (((l.length : Nat) : Int) ≠ most + 2) = true := decide_eq_true h3
    (repeat (first | ((with_reducible apply zr_seq)) | ((with_reducible apply zr_region); (try simp only [List.append_eq, List.cons_append, List.nil_append])) | ((with_reducible apply zo_end)) | ((with_reducible apply zs_assign); (exact rfl); (exact rfl)) | ((with_reducible apply zr_cond_t); (exact rfl); (first | assumption | exact rfl))))
    refine zr_nil 4 1 rfl fun t ht ht0 => ?_; refine zr_retZ rfl (resD_tmp rfl (resD_tmp rfl (resD_nil _ _ _))) ?_; have := hK t ht ht0; rw [show unpadL l most = none from by unfold unpadL; exact if_neg (by omega)] at this; exact this
  have g3 : decide (((l.length : Nat) : Int) ≠ most + 2) = false := decide_eq_false h3
  have hu : unpadL l most = if get (l.take 2) ≤ most ∧ zero (l.drop (2 + (get (l.take 2)).toNat)) = true then some ((l.take (2 + (get (l.take 2)).toNat)).drop 2) else none := by unfold unpadL; exact if_pos (by omega)
  have hg0 := get_nonneg (l.take 2)
  have hg1 := get2_lt l
  (repeat (first | ((with_reducible apply zr_seq)) | ((with_reducible apply zr_region); (try simp only [List.append_eq, List.cons_append, List.nil_append])) | ((with_reducible apply zs_move); (exact rfl); (exact rfl)) | ((with_reducible apply zr_cond_f); (exact rfl); (first | assumption | exact rfl)) | ((with_reducible apply zr_skip'))))
  (try ((with_reducible apply zs_yes); exact rfl; exact rfl; (first | assumption | exact rfl))); refine zo_pure0 rfl rfl (by decide) (zp_cutB rfl zq34 sz5 rfl (l := 0) (m := 2) rfl ⟨_, rfl⟩ (by omega) (by omega)) ?_
  rw [List.drop_zero]
  (try ((with_reducible apply zs_yes); exact rfl; exact rfl; (first | assumption | exact rfl))); refine zo_callU get_snd Try.func59 zq36 rfl rfl rfl rfl (by decide) rfl rfl zq3 ?_
  refine ⟨_, _, rfl, by simp; omega, ?_⟩
  (repeat (first | ((with_reducible apply zr_seq)) | ((with_reducible apply zr_region); (try simp only [List.append_eq, List.cons_append, List.nil_append])) | ((with_reducible apply zo_end)) | ((with_reducible apply zs_move); (exact rfl); (exact rfl)) | ((with_reducible apply zs_assign); (exact rfl); (exact rfl)) | ((with_reducible apply zs_gtr); (exact rfl); (exact rfl); (exact rfl)) | ((with_reducible apply zs_conv); (exact rfl); (exact rfl); (exact un_int rfl); (exact un_int rfl); (first | first | (with_reducible assumption) | exact wrap_in64 (by omega) (by omega) | exact wrap_inU64 (by omega) (by omega)))))
  by_cases h4 : most < get (l.take 2)
  · have g4 : decide (most < get (l.take 2)) = true := decide_eq_true h4
    (repeat (first | ((with_reducible apply zr_seq)) | ((with_reducible apply zr_region); (try simp only [List.append_eq, List.cons_append, List.nil_append])) | ((with_reducible apply zo_end)) | ((with_reducible apply zs_noU); (exact rfl); (exact rfl); (first | assumption | exact rfl | (simp only [Bool.not_false, Bool.not_true]; assumption)); (exact rfl)) | ((with_reducible apply zs_assign); (exact rfl); (exact rfl)) | ((with_reducible apply zs_pick_t); (exact rfl); (exact rfl); (first | assumption | exact rfl); (exact rfl)) | ((with_reducible apply zr_cond_t); (exact rfl); (first | assumption | exact rfl))))
    refine zr_nil 4 1 rfl fun t ht ht0 => ?_
    refine zr_retZ rfl (resD_tmp rfl (resD_tmp rfl (resD_nil _ _ _))) ?_
    have := hK t ht ht0
    rw [hu, if_neg (by omega)] at this
    exact this
  have g4 : decide (most < get (l.take 2)) = false := decide_eq_false h4
  (repeat (first | ((with_reducible apply zs_yes); (exact rfl); (exact rfl); (first | assumption | exact rfl)) | ((with_reducible apply zs_move); (exact rfl); (exact rfl)) | ((with_reducible apply zs_add); (exact rfl); (exact rfl); (exact rfl); (first | (with_reducible assumption) | exact wrap_in64 (by omega) (by omega)))))
  have e5 : (2 : Int) + get (l.take 2) = ((2 + (get (l.take 2)).toNat : Nat) : Int) := by omega
  rw [e5]
  (try ((with_reducible apply zs_yes); exact rfl; exact rfl; (first | assumption | exact rfl))); refine zo_pure0 rfl rfl (by decide) (zp_cutB rfl zq34 sz5 rfl (l := 2 + (get (l.take 2)).toNat) (m := l.length) ⟨_, rfl⟩ rfl (by omega) (by omega)) ?_
  rw [List.take_length]
  (try ((with_reducible apply zs_yes); exact rfl; exact rfl; (first | assumption | exact rfl))); refine zo_callU zero_snd Try.func80 zq36 rfl rfl rfl rfl (by decide) rfl rfl zq3 ?_
  refine ⟨_, _, rfl, by simp; omega, ?_⟩
  cases h6 : zero (l.drop (2 + (get (l.take 2)).toNat))
  · (repeat (first | ((with_reducible apply zr_seq)) | ((with_reducible apply zr_region); (try simp only [List.append_eq, List.cons_append, List.nil_append])) | ((with_reducible apply zo_end)) | ((with_reducible apply zs_yes); (exact rfl); (exact rfl); (first | assumption | exact rfl)) | ((with_reducible apply zs_assign); (exact rfl); (exact rfl)) | ((with_reducible apply zs_not); (exact rfl); (exact rfl)) | ((with_reducible apply zs_pick_f); (exact rfl); (exact rfl); (first | assumption | exact rfl); (exact rfl)) | ((with_reducible apply zr_cond_t); (exact rfl); (first | assumption | exact rfl))))
    refine zr_nil 4 1 rfl fun t ht ht0 => ?_
    refine zr_retZ rfl (resD_tmp rfl (resD_tmp rfl (resD_nil _ _ _))) ?_
    have := hK t ht ht0
    rw [hu, h6, if_neg (by simp)] at this
    exact this
  · (repeat (first | ((with_reducible apply zr_seq)) | ((with_reducible apply zr_region); (try simp only [List.append_eq, List.cons_append, List.nil_append])) | ((with_reducible apply zo_end)) | ((with_reducible apply zs_yes); (exact rfl); (exact rfl); (first | assumption | exact rfl)) | ((with_reducible apply zs_move); (exact rfl); (exact rfl)) | ((with_reducible apply zs_not); (exact rfl); (exact rfl)) | ((with_reducible apply zs_pick_f); (exact rfl); (exact rfl); (first | assumption | exact rfl); (exact rfl)) | ((with_reducible apply zs_add); (exact rfl); (exact rfl); (exact rfl); (first | (with_reducible assumption) | exact wrap_in64 (by omega) (by omega))) | ((with_reducible apply zr_cond_f); (exact rfl); (first | assumption | exact rfl)) | ((with_reducible apply zr_skip'))))
    rw [e5]
    (try ((with_reducible apply zs_yes); exact rfl; exact rfl; (first | assumption | exact rfl))); refine zo_pure0 rfl rfl (by decide) (zp_cutB rfl zq34 sz5 rfl (l := 2) (m := 2 + (get (l.take 2)).toNat) ⟨_, rfl⟩ ⟨_, rfl⟩ (by omega) (by omega)) ?_
    (try ((with_reducible apply zs_yes); exact rfl; exact rfl; (first | assumption | exact rfl))); refine zo_val rfl rfl (by decide) (zv_append_nil rfl el5 zq34 rfl rfl (by simp; omega) fun t ht ht0 => ?_)
    (repeat (first | ((with_reducible apply zo_end)) | ((with_reducible apply zs_assign); (exact rfl); (exact rfl))))
    refine zr_retZ rfl (resD_tmp rfl (resD_tmp rfl (resD_nil _ _ _))) ?_
    have := hK t ht ht0
    rw [hu, h6, if_pos ⟨by omega, rfl⟩] at this
    exact this

/-! ### le.Sum -/
def step (h : Int) (b : UInt8) : Int := IntKind.u64.wrap (IntKind.u64.wrap ((BitVec.ofInt IntKind.u64.bits h ^^^ BitVec.ofInt IntKind.u64.bits (b.toNat : Int)).toNat : Int) * 1099511628211)
def sumL (l : List UInt8) : Int := l.foldl step 14695981039346656037
theorem take_succ_byte (l : List UInt8) (i : Nat) (h : i < l.length) : l.take (i + 1) = l.take i ++ [l.getD i 0] := by
  rw [List.take_succ_eq_append_getElem h, getD_in h]
/-- Parts. -/
def partsD (ps : List (List UInt8 × Nat)) : List (List D) := ps.map fun p => [.row (bytesD p.1) 1 p.2]
@[simp] theorem partsD_length (ps) : (partsD ps).length = ps.length := by simp [partsD]
theorem partsD_getD (ps : List (List UInt8 × Nat)) (i : Nat) (h : i < ps.length) : (partsD ps).getD i [] = [.row (bytesD (ps.getD i ([], 0)).1) 1 (ps.getD i ([], 0)).2] := by
  rw [getD_in (by simpa using h), getD_in h]; simp [partsD]

theorem sz22 : (Try.prog.info? 27).map (·.size) = some 1 := by kernel_rfl
theorem sh22 : shapeIs Try.prog 27 false 1 := shape_one Try.underlying27 trivial sz22
theorem if22 : ∃ i, Try.prog.info? 27 = some i ∧ i.size = 1 := Option.map_eq_some_iff.1 sz22


end Go.Proofs.ZtLe
