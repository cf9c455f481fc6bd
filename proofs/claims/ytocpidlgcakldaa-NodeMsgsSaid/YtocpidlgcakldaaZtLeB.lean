/- A part of the proof of NodeMsgs: walks of the functions that it reaches. No condition. -/
import Derived.Test.YtocpidlgcakldaaZtLeA
import Derived.Test.YtocpidlgcakldaaZmAuto
namespace Go.Proofs.ZtLe
open Go.RowKit Go.Proofs Go.Proofs.Zm
set_option linter.unusedVariables false
set_option linter.unusedSimpArgs false
set_option maxHeartbeats 20000000
set_option maxRecDepth 100000
attribute [local irreducible] ZWp ZOps ZPure ZPure0 ZVal ZOp SoundF

/-! ### le.Zero -/
def zero (l : List UInt8) : Bool := l.all (· == 0)
theorem zero_of (l : List UInt8) (h : ∀ j, j < l.length → l.getD j 0 = 0) : zero l = true := by
  unfold zero
  rw [List.all_eq_true]
  intro x hx
  obtain ⟨j, hj⟩ := List.mem_iff_getElem?.1 hx
  have hlt := (List.getElem?_eq_some_iff.1 hj).1
  have := h j hlt
  rw [List.getD_eq_getElem?_getD, hj] at this
  simpa using this
theorem zero_not (l : List UInt8) (j : Nat) (hj : j < l.length) (h : l.getD j 0 ≠ 0) : zero l = false := by
  unfold zero
  rw [List.all_eq_false]
  rw [getD_in hj] at h
  exact ⟨l[j], List.getElem_mem hj, by simpa using h⟩
theorem byte_ne {b : UInt8} (h : ((b.toNat : Int)) ≠ 0) : b ≠ 0 := fun e => h (by rw [e]; rfl)
theorem byte_eq {b : UInt8} (h : ((b.toNat : Int)) = 0) : b = 0 := by
  apply UInt8.toNat_inj.1
  show b.toNat = 0
  omega

def zeroSpec : ZSpec := fun args st K => ∃ (l : List UInt8) (tk : Nat), args = [.row (bytesD l) 1 tk] ∧ l.length ≤ 140737488355328 ∧ K (.v (.bool (zero l))) st

theorem zero_snd : SoundF Try.prog 80 zeroSpec := by
  refine sound_of Try.func80 rfl Try.results80 ?_
  rintro w0 args st K ⟨l, tk, rfl, hl, hK⟩
  rw [Try.ntmps80]; refine ⟨by simp, ?_⟩
  (repeat (first | ((with_reducible apply zr_seq)) | ((with_reducible apply zr_region); (try simp only [List.append_eq, List.cons_append, List.nil_append])) | ((with_reducible apply zo_end)) | ((with_reducible apply zs_move); (exact rfl); (exact rfl)) | ((with_reducible apply zs_assign); (exact rfl); (exact rfl)) | ((with_reducible apply zs_lenB); (exact rfl); (exact rfl); (exact un_sl rfl)) | ((with_reducible apply zr_block))))
  refine zr_loopE (fun m env s => ∃ i : Nat, m + i = l.length ∧ (∀ j, j < i → l.getD j 0 = 0) ∧ env = [(5, .row (bytesD l) 1 tk), (6, .v (.int .i64 (l.length : Nat))), (7, .v (.int .i64 (i : Nat)))] ∧ s = st) l.length [(5, .row (bytesD l) 1 tk), (6, .v (.int .i64 (l.length : Nat))), (7, .v (.int .i64 (0 : Nat)))] zq19 ⟨0, rfl, fun j h => absurd h (by omega), rfl, rfl⟩ ?_
  rintro m env s ⟨i, hm, hz, rfl, rfl⟩
  (repeat (first | ((with_reducible apply zr_seq)) | ((with_reducible apply zr_region); (try simp only [List.append_eq, List.cons_append, List.nil_append])) | ((with_reducible apply zo_end)) | ((with_reducible apply zs_lss); (exact rfl); (exact rfl); (exact rfl))))
  by_cases hlt : i < l.length
  · have g4 : decide ((i : Int) < (l.length : Nat)) = true := decide_eq_true (by omega)
    (repeat (first | ((with_reducible apply zr_seq)) | ((with_reducible apply zr_region); (try simp only [List.append_eq, List.cons_append, List.nil_append])) | ((with_reducible apply zr_cond_t); (exact rfl); (first | assumption | exact rfl)) | ((with_reducible apply zr_block)) | ((with_reducible apply zr_skip'))))
    (try ((with_reducible apply zs_yes); exact rfl; exact rfl; (first | assumption | exact rfl))); refine zo_pure0 rfl rfl (by decide) (zp_idxB rfl zq34 sz5 rfl rfl hlt) ?_
    (try ((with_reducible apply zs_yes); exact rfl; exact rfl; (first | assumption | exact rfl))); refine zo_pure rfl rfl (by decide) (zp_load_ref rfl sh5 rfl rfl) ?_
    (repeat (first | ((with_reducible apply zr_seq)) | ((with_reducible apply zr_region); (try simp only [List.append_eq, List.cons_append, List.nil_append])) | ((with_reducible apply zo_end)) | ((with_reducible apply zs_move); (exact rfl); (exact rfl)) | ((with_reducible apply zs_assign); (exact rfl); (exact rfl)) | ((with_reducible apply zs_neq); (exact rfl); (exact rfl); (exact rfl))))
    by_cases hb : ((l.getD i 0).toNat : Int) ≠ 0
    · have g5 : decide (((l.getD i 0).toNat : Int) ≠ 0) = true := decide_eq_true hb
      (repeat (first | ((with_reducible apply zr_seq)) | ((with_reducible apply zr_region); (try simp only [List.append_eq, List.cons_append, List.nil_append])) | ((with_reducible apply zo_end)) | ((with_reducible apply zs_assign); (exact rfl); (exact rfl)) | ((with_reducible apply zr_cond_t); (exact rfl); (first | assumption | exact rfl))))
      refine zr_retZ rfl (resD_tmp rfl (resD_nil _ _ _)) ?_
      rw [zero_not l i hlt (byte_ne hb)] at hK
      exact hK
    · have g5 : decide (((l.getD i 0).toNat : Int) ≠ 0) = false := decide_eq_false hb
      (repeat (first | ((with_reducible apply zr_region); (try simp only [List.append_eq, List.cons_append, List.nil_append])) | ((with_reducible apply zo_end)) | ((with_reducible apply zs_move); (exact rfl); (exact rfl)) | ((with_reducible apply zs_add); (exact rfl); (exact rfl); (exact rfl); (first | (with_reducible assumption) | exact wrap_in64 (by omega) (by omega))) | ((with_reducible apply zr_cond_f); (exact rfl); (first | assumption | exact rfl)) | ((with_reducible apply zr_skipB))))
      refine ⟨m - 1, [(5, .row (bytesD l) 1 tk), (6, .v (.int .i64 (l.length : Nat))), (7, .v (.int .i64 ((i + 1) : Nat)))], by omega, ⟨i + 1, by omega, fun j hj => ?_, rfl, rfl⟩, zq19⟩
      by_cases hji : j = i
      · subst hji; exact byte_eq (by omega)
      · exact hz j (by omega)
  · have g4 : decide ((i : Int) < (l.length : Nat)) = false := decide_eq_false (by omega)
    (repeat (first | ((with_reducible apply zr_seq)) | ((with_reducible apply zr_region); (try simp only [List.append_eq, List.cons_append, List.nil_append])) | ((with_reducible apply zo_end)) | ((with_reducible apply zs_assign); (exact rfl); (exact rfl)) | ((with_reducible apply zr_cond_f); (exact rfl); (first | assumption | exact rfl)) | (with_reducible refine zr_exit ?_; simp only [Zthen, Zblock, ↓reduceIte])))
    refine zr_retZ rfl (resD_tmp rfl (resD_nil _ _ _)) ?_
    rw [zero_of l fun j hj => hz j (by omega)] at hK
    exact hK

/-! ### le.Pad -/
def padL (l : List UInt8) (most : Int) : Option (List UInt8) := if 0 ≤ most ∧ most ≤ 60000 ∧ (l.length : Int) ≤ most then some (putB l.length 2 ++ l ++ List.replicate (most.toNat - l.length) 0) else none

def padSpec : ZSpec := fun args st K => ∃ (l : List UInt8) (tk : Nat) (most : Int), args = [.row (bytesD l) 1 tk, .v (.int .i64 most)] ∧ l.length ≤ 140737488355328 ∧
  ∀ t, st.T t = false → t ≠ 0 → K (.tup [.row (bytesD ((padL l most).getD [])) 1 t, .v (.bool (padL l most).isSome)]) (st.setT t true)

theorem pad_snd : SoundF Try.prog 45 padSpec := by
  refine sound_of Try.func45 rfl Try.results45 ?_
  rintro w0 args st K ⟨l, tk, most, rfl, hl, hK⟩
  rw [Try.ntmps45]; refine ⟨by simp, ?_⟩
  (repeat (first | ((with_reducible apply zr_seq)) | ((with_reducible apply zr_region); (try simp only [List.append_eq, List.cons_append, List.nil_append])) | ((with_reducible apply zo_end)) | ((with_reducible apply zs_move); (exact rfl); (exact rfl)) | ((with_reducible apply zs_assign); (exact rfl); (exact rfl)) | ((with_reducible apply zs_lss); (exact rfl); (exact rfl); (exact rfl))))
  by_cases h1 : most < 0
  · have g1 : decide (most < 0) = true := decide_eq_true h1
    (repeat (first | ((with_reducible apply zr_seq)) | ((with_reducible apply zr_region); (try simp only [List.append_eq, List.cons_append, List.nil_append])) | ((with_reducible apply zo_end)) | ((with_reducible apply zs_noU); (exact rfl); (exact rfl); (first | assumption | exact rfl | (simp only [Bool.not_false, Bool.not_true]; assumption)); (exact rfl)) | ((with_reducible apply zs_move); (exact rfl); (exact rfl)) | ((with_reducible apply zs_assign); (exact rfl); (exact rfl)) | ((with_reducible apply zs_pick_t); (exact rfl); (exact rfl); (first | assumption | exact rfl); (exact rfl)) | ((with_reducible apply zr_cond_t); (exact rfl); (first | assumption | exact rfl))))
    refine zr_nil 4 1 rfl fun t ht ht0 => ?_
    refine zr_retZ rfl (resD_tmp rfl (resD_tmp rfl (resD_nil _ _ _))) ?_
    have := hK t ht ht0
    rw [show padL l most = none from by unfold padL; exact if_neg (by omega)] at this
    exact this
  have g1 : decide (most < 0) = false := decide_eq_false h1
  (repeat (first | ((with_reducible apply zs_yes); (exact rfl); (exact rfl); (first | assumption | exact rfl)) | ((with_reducible apply zs_move); (exact rfl); (exact rfl)) | ((with_reducible apply zs_gtr); (exact rfl); (exact rfl); (exact rfl)) | ((with_reducible apply zs_pick_f); (exact rfl); (exact rfl); (first | assumption | exact rfl); (exact rfl))))
  by_cases h2 : 60000 < most
  · have g2 : decide (60000 < most) = true := decide_eq_true h2
    (repeat (first | ((with_reducible apply zr_seq)) | ((with_reducible apply zr_region); (try simp only [List.append_eq, List.cons_append, List.nil_append])) | ((with_reducible apply zo_end)) | ((with_reducible apply zs_noU); (exact rfl); (exact rfl); (first | assumption | exact rfl | (simp only [Bool.not_false, Bool.not_true]; assumption)); (exact rfl)) | ((with_reducible apply zs_assign); (exact rfl); (exact rfl)) | ((with_reducible apply zs_pick_t); (exact rfl); (exact rfl); (first | assumption | exact rfl); (exact rfl)) | ((with_reducible apply zr_cond_t); (exact rfl); (first | assumption | exact rfl))))
    refine zr_nil 4 1 rfl fun t ht ht0 => ?_
    refine zr_retZ rfl (resD_tmp rfl (resD_tmp rfl (resD_nil _ _ _))) ?_
    have := hK t ht ht0
    rw [show padL l most = none from by unfold padL; exact if_neg (by omega)] at this
    exact this
  have g2 : decide (60000 < most) = false := decide_eq_false h2
  (repeat (first | ((with_reducible apply zo_end)) | ((with_reducible apply zs_yes); (exact rfl); (exact rfl); (first | assumption | exact rfl)) | ((with_reducible apply zs_move); (exact rfl); (exact rfl)) | ((with_reducible apply zs_gtr); (exact rfl); (exact rfl); (exact rfl)) | ((with_reducible apply zs_pick_f); (exact rfl); (exact rfl); (first | assumption | exact rfl); (exact rfl)) | ((with_reducible apply zs_lenB); (exact rfl); (exact rfl); (exact un_sl rfl))))
  by_cases h3 : most < (l.length : Nat)
  · have g3 : decide (most < (l.length : Nat)) = true := decide_eq_true h3
    (repeat (first | ((with_reducible apply zr_seq)) | ((with_reducible apply zr_region); (try simp only [List.append_eq, List.cons_append, List.nil_append])) | ((with_reducible apply zo_end)) | ((with_reducible apply zs_assign); (exact rfl); (exact rfl)) | ((with_reducible apply zr_cond_t); (exact rfl); (first | assumption | exact rfl))))
    refine zr_nil 4 1 rfl fun t ht ht0 => ?_
    refine zr_retZ rfl (resD_tmp rfl (resD_tmp rfl (resD_nil _ _ _))) ?_
    have := hK t ht ht0
    rw [show padL l most = none from by unfold padL; exact if_neg (by omega)] at this
    exact this
  have g3 : decide (most < (l.length : Nat)) = false := decide_eq_false h3
  have hp : padL l most = some (putB l.length 2 ++ l ++ List.replicate (most.toNat - l.length) 0) := by unfold padL; exact if_pos (by omega)
  (repeat (first | ((with_reducible apply zr_seq)) | ((with_reducible apply zr_region); (try simp only [List.append_eq, List.cons_append, List.nil_append])) | ((with_reducible apply zs_move); (exact rfl); (exact rfl)) | ((with_reducible apply zs_conv); (exact rfl); (exact rfl); (exact un_int rfl); (exact un_int rfl); (first | first | (with_reducible assumption) | exact wrap_in64 (by omega) (by omega) | exact wrap_inU64 (by omega) (by omega))) | ((with_reducible apply zs_lenB); (exact rfl); (exact rfl); (exact un_sl rfl)) | ((with_reducible apply zr_cond_f); (exact rfl); (first | assumption | exact rfl)) | ((with_reducible apply zr_skip'))))
  (try ((with_reducible apply zs_yes); exact rfl; exact rfl; (first | assumption | exact rfl))); refine zo_callU put_snd Try.func44 zq36 rfl rfl rfl rfl (by decide) rfl rfl zq3 ?_
  refine ⟨_, _, rfl, by omega, by omega, fun t ht ht0 => ?_⟩
  (repeat (first | ((with_reducible apply zs_move); (exact rfl); (exact rfl))))
  have hlp : (putB (l.length : Nat) 2).length = 2 := by simp [putB, put_length]
  (try ((with_reducible apply zs_yes); exact rfl; exact rfl; (first | assumption | exact rfl))); refine zo_val rfl rfl (by decide) (zv_append rfl el5 zq34 rfl (by simp) rfl (by simp [hlp]; omega) fun t2 h2 h20 => ?_)
  rw [St.setT_back ht]
  have ht2 : st.T t2 = false := by
    by_cases h : t2 = t
    · simp [h] at h2
    · simpa [h] using h2
  (repeat (first | ((with_reducible apply zr_seq)) | ((with_reducible apply zr_region); (try simp only [List.append_eq, List.cons_append, List.nil_append])) | ((with_reducible apply zo_end)) | ((with_reducible apply zs_move); (exact rfl); (exact rfl)) | ((with_reducible apply zs_assign); (exact rfl); (exact rfl)) | ((with_reducible apply zs_sub); (exact rfl); (exact rfl); (exact rfl); (first | (with_reducible assumption) | exact wrap_in64 (by omega) (by omega))) | ((with_reducible apply zs_lenB); (exact rfl); (exact rfl); (exact un_sl rfl))))
  (try ((with_reducible apply zs_yes); exact rfl; exact rfl; (first | assumption | exact rfl))); refine zo_val rfl rfl (by decide) (zv_append_zeros rfl el5 zq31 zq34 (by exact un_int rfl) rfl (by simp) rfl (by omega) (by simp [hlp]; omega) fun t3 h3' h30 => ?_)
  rw [St.setT_back ht2]
  have ht3 : st.T t3 = false := by
    by_cases h : t3 = t2
    · simp [h] at h3'
    · simpa [h] using h3'
  (repeat (first | ((with_reducible apply zo_end)) | ((with_reducible apply zs_assign); (exact rfl); (exact rfl))))
  refine zr_retZ rfl (resD_tmp rfl (resD_tmp rfl (resD_nil _ _ _))) ?_
  have := hK t3 ht3 h30
  rw [hp] at this
  rw [zeros, show (most - (l.length : Nat)).toNat = most.toNat - l.length by omega, ← bytesD_append, ← bytesD_append]
  exact this

attribute [irreducible] zero padL
end Go.Proofs.ZtLe
