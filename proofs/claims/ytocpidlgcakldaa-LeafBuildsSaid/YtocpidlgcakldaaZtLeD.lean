/- A part of the proof of LeafBuilds: walks of the functions that it reaches. No condition. -/
import Derived.Test.YtocpidlgcakldaaZtLeC
import Derived.Test.YtocpidlgcakldaaZmAuto
namespace Go.Proofs.ZtLe
open Go.RowKit Go.Proofs Go.Proofs.Zm
set_option linter.unusedVariables false
set_option linter.unusedSimpArgs false
set_option maxHeartbeats 20000000
set_option maxRecDepth 100000
attribute [local irreducible] ZWp ZOps ZPure ZPure0 ZVal ZOp SoundF

/-! ### dumbwaiterref1.Same -/
def sameSpec : ZSpec := fun args st K => ∃ (l m : List UInt8) (tk tm : Nat), args = [.row (bytesD l) 1 tk, .row (bytesD m) 1 tm] ∧ K (.v (.bool (l == m))) st
theorem same_snd : SoundF Try.prog 19 sameSpec := by
  refine sound_of Try.func19 rfl Try.results19 ?_
  rintro w0 args st K ⟨l, m, tk, tm, rfl, hK⟩
  rw [Try.ntmps19]; refine ⟨by simp, ?_⟩
  (repeat (first | ((with_reducible apply zr_seq)) | ((with_reducible apply zr_region); (try simp only [List.append_eq, List.cons_append, List.nil_append])) | ((with_reducible apply zo_end)) | ((with_reducible apply zs_move); (exact rfl); (exact rfl)) | ((with_reducible apply zs_assign); (exact rfl); (exact rfl))))
  (try ((with_reducible apply zs_yes); exact rfl; exact rfl; (first | assumption | exact rfl))); refine zo_pure rfl rfl (by decide) (zp_toStr rfl zq36 Try.underlying5 Try.underlying9 rfl) ?_
  (repeat (first | ((with_reducible apply zs_move); (exact rfl); (exact rfl))))
  (try ((with_reducible apply zs_yes); exact rfl; exact rfl; (first | assumption | exact rfl))); refine zo_pure rfl rfl (by decide) (zp_toStr rfl zq36 Try.underlying5 Try.underlying9 rfl) ?_
  (try ((with_reducible apply zs_yes); exact rfl; exact rfl; (first | assumption | exact rfl))); refine zo_pure0 rfl rfl (by decide) (zp_str rfl rfl rfl (.inl ⟨rfl, rfl⟩)) ?_
  (repeat (first | ((with_reducible apply zo_end)) | ((with_reducible apply zs_assign); (exact rfl); (exact rfl))))
  refine zr_retZ rfl (resD_tmp rfl (resD_nil _ _ _)) ?_
  simpa [resOf] using hK

/-! ### dumbwaiterref1.Put -/
theorem shr_pow (n : Int) (i : Nat) (hi : i < 8) : n.fdiv (2 ^ min (Int.toNat (8 * (i : Nat))) IntKind.u64.bits) = n / 256 ^ i := by
  have : min (Int.toNat (8 * (i : Nat))) IntKind.u64.bits = 8 * i := by
    have h1 : (8 * (i : Int)).toNat = 8 * i := by omega
    have h2 : IntKind.u64.bits = 64 := rfl
    omega
  rw [this, Int.fdiv_eq_ediv_of_nonneg _ (Int.pow_nonneg (by decide)), Int.pow_mul]
  rfl
theorem rput_snd : SoundF Try.prog 56 putSpec := by
  refine sound_of Try.func56 rfl Try.results56 ?_
  rintro w0 args st K ⟨n, k, rfl, h0, h1, hK⟩
  rw [Try.ntmps56]; refine ⟨by simp, ?_⟩
  unfold putB at hK
  (repeat (first | ((with_reducible apply zr_seq)) | ((with_reducible apply zr_region); (try simp only [List.append_eq, List.cons_append, List.nil_append])) | ((with_reducible apply zo_end)) | ((with_reducible apply zs_move); (exact rfl); (exact rfl)) | ((with_reducible apply zs_assign); (exact rfl); (exact rfl)) | ((with_reducible apply zs_lss); (exact rfl); (exact rfl); (exact rfl))))
  by_cases hk : k < 0
  · have g1 : decide (k < 0) = true := decide_eq_true hk
    (repeat (first | ((with_reducible apply zr_seq)) | ((with_reducible apply zr_region); (try simp only [List.append_eq, List.cons_append, List.nil_append])) | ((with_reducible apply zo_end)) | ((with_reducible apply zs_noU); (exact rfl); (exact rfl); (first | assumption | exact rfl | (simp only [Bool.not_false, Bool.not_true]; assumption)); (exact rfl)) | ((with_reducible apply zs_assign); (exact rfl); (exact rfl)) | ((with_reducible apply zs_pick_t); (exact rfl); (exact rfl); (first | assumption | exact rfl); (exact rfl)) | ((with_reducible apply zr_cond_t); (exact rfl); (first | assumption | exact rfl))))
    refine zr_nil 4 1 rfl fun t ht ht0 => ?_
    refine zr_retZ rfl (resD_tmp rfl (resD_nil _ _ _)) ?_
    have := hK t ht ht0
    rw [if_neg (by omega)] at this
    exact this
  · have g1 : decide (k < 0) = false := decide_eq_false hk
    (repeat (first | ((with_reducible apply zo_end)) | ((with_reducible apply zs_yes); (exact rfl); (exact rfl); (first | assumption | exact rfl)) | ((with_reducible apply zs_move); (exact rfl); (exact rfl)) | ((with_reducible apply zs_gtr); (exact rfl); (exact rfl); (exact rfl)) | ((with_reducible apply zs_pick_f); (exact rfl); (exact rfl); (first | assumption | exact rfl); (exact rfl))))
    by_cases hk8 : 8 < k
    · have g3 : decide (8 < k) = true := decide_eq_true hk8
      (repeat (first | ((with_reducible apply zr_seq)) | ((with_reducible apply zr_region); (try simp only [List.append_eq, List.cons_append, List.nil_append])) | ((with_reducible apply zo_end)) | ((with_reducible apply zs_assign); (exact rfl); (exact rfl)) | ((with_reducible apply zr_cond_t); (exact rfl); (first | assumption | exact rfl))))
      refine zr_nil 4 1 rfl fun t ht ht0 => ?_
      refine zr_retZ rfl (resD_tmp rfl (resD_nil _ _ _)) ?_
      have := hK t ht ht0
      rw [if_neg (by omega)] at this
      exact this
    · have g3 : decide (8 < k) = false := decide_eq_false hk8
      (repeat (first | ((with_reducible apply zr_seq)) | ((with_reducible apply zr_region); (try simp only [List.append_eq, List.cons_append, List.nil_append])) | ((with_reducible apply zo_end)) | ((with_reducible apply zs_assign); (exact rfl); (exact rfl)) | ((with_reducible apply zr_cond_f); (exact rfl); (first | assumption | exact rfl)) | ((with_reducible apply zr_block)) | ((with_reducible apply zr_skip'))))
      refine zr_nil 5 1 rfl fun t ht ht0 => ?_
      refine zr_loopE (fun m env s => ∃ (i : Nat) (t' : Nat), m + i = k.toNat ∧ env = [(0, .v (.int .u64 n)), (1, .v (.int .i64 k)), (5, .row (bytesD (put n i)) 1 t'), (6, .v (.int .i64 (i : Nat)))] ∧ s = st.setT t' true ∧ st.T t' = false ∧ t' ≠ 0) k.toNat [(0, .v (.int .u64 n)), (1, .v (.int .i64 k)), (5, .row (bytesD (put n 0)) 1 t), (6, .v (.int .i64 (0 : Nat)))] (sub_cons rfl (sub_cons rfl (sub_cons (by simp [zlook, put]) zq23))) ⟨0, t, rfl, rfl, rfl, ht, ht0⟩ ?_
      rintro m env s ⟨i, t', hm, rfl, rfl, ht', ht0'⟩
      (repeat (first | ((with_reducible apply zr_seq)) | ((with_reducible apply zr_region); (try simp only [List.append_eq, List.cons_append, List.nil_append])) | ((with_reducible apply zo_end)) | ((with_reducible apply zs_move); (exact rfl); (exact rfl)) | ((with_reducible apply zs_lss); (exact rfl); (exact rfl); (exact rfl))))
      by_cases hlt : (i : Int) < k
      · have g4 : decide ((i : Int) < k) = true := decide_eq_true hlt
        (repeat (first | ((with_reducible apply zr_seq)) | ((with_reducible apply zr_region); (try simp only [List.append_eq, List.cons_append, List.nil_append])) | ((with_reducible apply zs_move); (exact rfl); (exact rfl)) | ((with_reducible apply zr_cond_t); (exact rfl); (first | assumption | exact rfl)) | ((with_reducible apply zr_block)) | ((with_reducible apply zr_skip'))))
        (try ((with_reducible apply zs_yes); exact rfl; exact rfl; (first | assumption | exact rfl))); refine zo_pure0 rfl rfl (by decide) (zp_mul rfl rfl rfl (wrap_in64 (by omega) (by omega))) ?_
        (repeat (first | ((with_reducible apply zs_conv); (exact rfl); (exact rfl); (exact un_int rfl); (exact un_int rfl); (first | first | (with_reducible assumption) | exact wrap_in64 (by omega) (by omega) | exact wrap_inU64 (by omega) (by omega)))))
        (try ((with_reducible apply zs_yes); exact rfl; exact rfl; (first | assumption | exact rfl))); refine zo_pure0 rfl rfl (by decide) (zp_shr rfl rfl rfl (by omega) (shr_pow n i (by omega))) ?_
        (try ((with_reducible apply zs_yes); exact rfl; exact rfl; (first | assumption | exact rfl))); refine zo_pure0 rfl rfl (by decide) (zp_conv rfl rfl (by exact un_int rfl) (by exact un_int rfl) (wrap_u8 _)) ?_
        (try ((with_reducible apply zs_yes); exact rfl; exact rfl; (first | assumption | exact rfl))); refine zo_val rfl rfl (by decide) (zv_lit (xs := [.tmp 24]) rfl rfl el5 zq36 rfl (by simp [cellsD, oneD, Value.oneCell']) (by decide) ?_)
        (try ((with_reducible apply zs_yes); exact rfl; exact rfl; (first | assumption | exact rfl))); refine zo_val rfl rfl (by decide) (zv_append rfl el5 zq36 rfl (by simp) rfl (by simp [put_length]; omega) fun t2 h2 h20 => ?_)
        rw [St.setT_back ht']
        (repeat (first | ((with_reducible apply zr_region); (try simp only [List.append_eq, List.cons_append, List.nil_append])) | ((with_reducible apply zo_end)) | ((with_reducible apply zo_endB)) | ((with_reducible apply zs_move); (exact rfl); (exact rfl)) | ((with_reducible apply zs_assign); (exact rfl); (exact rfl)) | ((with_reducible apply zs_add); (exact rfl); (exact rfl); (exact rfl); (first | (with_reducible assumption) | exact wrap_in64 (by omega) (by omega)))))
        have ht2 : st.T t2 = false := by
          by_cases h : t2 = t'
          · simp [h] at h2
          · simpa [h] using h2
        refine ⟨m - 1, [(0, .v (.int .u64 n)), (1, .v (.int .i64 k)), (5, .row (bytesD (put n (i + 1))) 1 t2), (6, .v (.int .i64 ((i + 1) : Nat)))], by omega, ⟨i + 1, t2, by omega, rfl, rfl, ht2, h20⟩, sub_cons rfl (sub_cons rfl (sub_cons ?_ zq23))⟩
        simp [zlook, cellsD, byte1, put]
      · have g4 : decide ((i : Int) < k) = false := decide_eq_false hlt
        (repeat (first | ((with_reducible apply zr_seq)) | ((with_reducible apply zr_region); (try simp only [List.append_eq, List.cons_append, List.nil_append])) | ((with_reducible apply zo_end)) | ((with_reducible apply zs_move); (exact rfl); (exact rfl)) | ((with_reducible apply zs_assign); (exact rfl); (exact rfl)) | ((with_reducible apply zr_cond_f); (exact rfl); (first | assumption | exact rfl)) | (with_reducible refine zr_exit ?_; simp only [Zthen, Zblock, ↓reduceIte])))
        refine zr_retZ rfl (resD_tmp rfl (resD_nil _ _ _)) ?_
        have hi : i = k.toNat := by omega
        subst hi
        have := hK t' ht' ht0'
        rw [if_pos (by omega)] at this
        exact this

/-! ### dumbwaiterref1.Get -/
theorem num_take_succ (l : List UInt8) (i : Nat) (h : i < l.length) : num (l.take (i + 1)) = num (l.take i) + 256 ^ i * ((l.getD i 0).toNat : Int) := by
  induction l generalizing i with
  | nil => simp at h
  | cons b l ih =>
    cases i with
    | zero => simp [num]
    | succ i =>
      have := ih i (by simpa using h)
      simp only [List.take_succ_cons, num, List.getD_cons_succ] at this ⊢
      rw [this, Int.pow_succ, Int.mul_add, Int.add_assoc, Int.mul_comm (256 ^ i) 256, Int.mul_assoc]
/-! ### dumbwaiterref1.Pad -/
/-! ### dumbwaiterref1.Unpad -/
end Go.Proofs.ZtLe
