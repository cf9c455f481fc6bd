/- A part of the proof of PosmBounds: walks of the functions that it reaches. No condition. -/
import Derived.Test.YtpelekdimmfldaaZtLeE
namespace Go.Proofs.ZtLe
open Go.RowKit Go.Proofs Go.Proofs.Zm
set_option linter.unusedVariables false
set_option linter.unusedSimpArgs false
set_option maxHeartbeats 20000000
attribute [local irreducible] ZWp ZOps ZPure ZPure0 ZVal ZOp SoundF

theorem put_getD (n : Int) (k i : Nat) (h : i < k) : (put n k).getD i 0 = UInt8.ofNat (n / 256 ^ i % 256).toNat := by
  induction k with
  | zero => omega
  | succ k ih =>
    unfold put
    by_cases hi : i < k
    · rw [List.getD_eq_getElem?_getD, List.getElem?_append_left (by rw [put_length]; exact hi), ← List.getD_eq_getElem?_getD, ih hi]
    · have : i = k := by omega
      subst this
      rw [List.getD_eq_getElem?_getD, List.getElem?_append_right (by rw [put_length]; exact Nat.le_refl _), put_length]
      simp
theorem byteval (n : Int) : ((UInt8.ofNat (n % 256).toNat).toNat : Int) = n % 256 := by simp; omega
theorem num_append (l m : List UInt8) : num (l ++ m) = num l + 256 ^ l.length * num m := by
  induction l with
  | nil => simp [num]
  | cons b l ih => simp only [List.cons_append, num, ih, List.length_cons, Int.pow_succ, Int.mul_add, Int.add_assoc, Int.mul_comm (256 ^ l.length) 256, Int.mul_assoc]
theorem num_put (n : Int) (k : Nat) (h : 0 ≤ n) : num (put n k) = n % 256 ^ k := by
  induction k with
  | zero => simp [put, num]
  | succ k ih =>
    unfold put
    rw [num_append, ih, put_length]
    simp only [num, byteval, Int.mul_zero, Int.add_zero]
    have hp : (256 : Int) ^ k ≠ 0 := by have : (0 : Int) < 256 ^ k := Int.pow_pos (by decide); omega
    rw [Int.pow_succ]
    have h1 := Int.emod_emod_of_dvd n (show (256 : Int) ^ k ∣ 256 ^ k * 256 from ⟨256, rfl⟩)
    have h2 : n % (256 ^ k * 256) / 256 ^ k = n / 256 ^ k % 256 := by
      rw [Int.emod_def n (256 ^ k * 256), Int.emod_def (n / 256 ^ k) 256, Int.ediv_ediv_of_nonneg (Int.le_of_lt (Int.pow_pos (by decide))), Int.mul_assoc, Int.sub_eq_add_neg, ← Int.mul_neg, Int.add_mul_ediv_left _ _ hp]
      omega
    have h3 := Int.mul_ediv_add_emod (n % (256 ^ k * 256)) (256 ^ k)
    rw [h1, h2] at h3
    omega
theorem get_short (l : List UInt8) (h : l.length ≤ 8) : get l = num l := by unfold get; rw [List.take_of_length_le h]
theorem get_put8 (n : Int) (h : 0 ≤ n) (h1 : n < 18446744073709551616) (m : List UInt8) : get (put n 8 ++ m) = n := by
  unfold get
  rw [List.take_append_of_le_length (by rw [put_length]; omega), List.take_of_length_le (by rw [put_length]; omega), num_put n 8 h]
  have : (256 : Int) ^ 8 = 18446744073709551616 := by decide
  omega
theorem putB_len (n k : Int) (h0 : 0 ≤ k) (h1 : k ≤ 8) : (putB n k).length = k.toNat := by unfold putB; rw [if_pos ⟨h0, h1⟩, put_length]

attribute [local irreducible] unpadL sumL step
def numbersSpec : ZSpec := fun args st K => ∃ (n size : Int) (more : List UInt8) (tk : Nat), args = [.v (.int .u64 n), .v (.int .i64 size), .row (bytesD more) 1 tk] ∧ 0 ≤ n ∧ n < 18446744073709551616 ∧ K (.v (.bool true)) st

theorem numbers_snd : SoundF Try.prog 4 numbersSpec := by
  refine sound_of Try.func4 rfl Try.results4 ?_
  rintro w0 args st K ⟨n, size, more, tk, rfl, hn0, hn1, hK⟩
  rw [Try.ntmps4]; refine ⟨by simp, ?_⟩
  (repeat (first | ((with_reducible apply zr_seq)) | ((with_reducible apply zr_region); (try simp only [List.append_eq, List.cons_append, List.nil_append])) | ((with_reducible apply zo_end)) | ((with_reducible apply zs_move); (exact rfl); (exact rfl)) | ((with_reducible apply zs_assign); (exact rfl); (exact rfl))))
  (try ((with_reducible apply zs_yes); exact rfl; exact rfl; (first | assumption | exact rfl))); refine zo_pure0 rfl rfl (by decide) (zp_and rfl rfl rfl (and_mask 3 (by decide) (by decide) (by decide) _ _ _ rfl rfl)) ?_
  (repeat (first | ((with_reducible apply zr_seq)) | ((with_reducible apply zr_region); (try simp only [List.append_eq, List.cons_append, List.nil_append])) | ((with_reducible apply zo_end)) | ((with_reducible apply zs_move); (exact rfl); (exact rfl)) | ((with_reducible apply zs_assign); (exact rfl); (exact rfl)) | ((with_reducible apply zs_add); (exact rfl); (exact rfl); (exact rfl); (exact wrap_in64 (by omega) (by omega)))))
  have e8 : (2 : Int) ^ 3 = 8 := rfl
  rw [e8]
  generalize hk : size % 8 + 1 = k
  have hk1 : 1 ≤ k := by omega
  have hk8 : k ≤ 8 := by omega
  skip
  (try ((with_reducible apply zs_yes); exact rfl; exact rfl; (first | assumption | exact rfl))); refine zo_callU put_snd Try.func19 (by kernel_rfl) rfl rfl rfl rfl (by decide) rfl rfl (by first | exact Ups.nilrow 1 (Ups.nilrow 1 (Ups.nilrow 1 (Ups.refl _))) | exact Ups.nilrow 1 (Ups.nilrow 1 (Ups.refl _)) | exact Ups.same (Ups.nilrow 1 (Ups.nilrow 1 (Ups.refl _))) | exact Ups.nilrow 1 (Ups.same (Ups.nilrow 1 (Ups.refl _))) | exact Ups.nilrow 1 (Ups.refl _) | exact Ups.same (Ups.nilrow 1 (Ups.refl _)) | exact Ups.same (Ups.same (Ups.nilrow 1 (Ups.refl _))) | exact Ups.refl _) ?_
  refine ⟨_, _, rfl, hn0, hn1, fun t1 ht1 ht10 => ?_⟩
  (try ((with_reducible apply zs_yes); exact rfl; exact rfl; (first | assumption | exact rfl))); refine zo_forget st (fun _ _ e => e) (fun q e => by simp [e]) ?_
  have hlen := putB_len n k (by omega) hk8
  (repeat (first | ((with_reducible apply zr_seq)) | ((with_reducible apply zr_region); (try simp only [List.append_eq, List.cons_append, List.nil_append])) | ((with_reducible apply zo_end)) | ((with_reducible apply zs_move); (exact rfl); (exact rfl)) | ((with_reducible apply zs_assign); (exact rfl); (exact rfl)) | ((with_reducible apply zs_neq); (exact rfl); (exact rfl); (exact rfl)) | ((with_reducible apply zs_lenB); (exact rfl); (exact rfl); (exact (by first | exact Try.underlying22 | exact Try.underlying47 | exact Try.underlying50 | exact Try.underlying59 | exact Try.underlying61 | exact Try.underlying73 | exact Try.underlying74 | exact Try.underlying78)))))
  have g1 : decide (((putB n k).length : Int) ≠ k) = false := decide_eq_false (by rw [hlen]; omega)
  (repeat (first | ((with_reducible apply zo_end)) | ((with_reducible apply zs_yes); (exact rfl); (exact rfl); (first | assumption | exact rfl)) | ((with_reducible apply zs_move); (exact rfl); (exact rfl)) | ((with_reducible apply zs_gtr); (exact rfl); (exact rfl); (exact rfl)) | ((with_reducible apply zs_pick_f); (exact rfl); (exact rfl); (first | assumption | exact rfl); (exact rfl)) | ((with_reducible apply zs_lenB); (exact rfl); (exact rfl); (exact (by first | exact Try.underlying22 | exact Try.underlying47 | exact Try.underlying50 | exact Try.underlying59 | exact Try.underlying61 | exact Try.underlying73 | exact Try.underlying74 | exact Try.underlying78)))))
  by_cases h2 : (100 : Int) < (more.length : Nat)
  · have g2 : decide ((100 : Int) < (more.length : Nat)) = true := decide_eq_true h2
    (repeat (first | ((with_reducible apply zr_seq)) | ((with_reducible apply zr_region); (try simp only [List.append_eq, List.cons_append, List.nil_append])) | ((with_reducible apply zs_move); (exact rfl); (exact rfl)) | ((with_reducible apply zs_eql); (exact rfl); (exact rfl); (exact rfl)) | ((with_reducible apply zs_lenB); (exact rfl); (exact rfl); (exact (by first | exact Try.underlying22 | exact Try.underlying47 | exact Try.underlying50 | exact Try.underlying59 | exact Try.underlying61 | exact Try.underlying73 | exact Try.underlying74 | exact Try.underlying78))) | ((with_reducible apply zr_cond_t); (exact rfl); (first | assumption | exact rfl))))
    have g3 : decide (((putB n k).length : Int) = k) = true := decide_eq_true (by rw [hlen]; omega)
    (repeat (first | ((with_reducible apply zs_yes); (exact rfl); (exact rfl); (first | assumption | exact rfl))))
    (try ((with_reducible apply zs_yes); exact rfl; exact rfl; (first | assumption | exact rfl))); refine zo_callU awake_snd Try.func15 (by kernel_rfl) rfl rfl rfl rfl (by decide) rfl rfl (by first | exact Ups.nilrow 1 (Ups.nilrow 1 (Ups.nilrow 1 (Ups.refl _))) | exact Ups.nilrow 1 (Ups.nilrow 1 (Ups.refl _)) | exact Ups.same (Ups.nilrow 1 (Ups.nilrow 1 (Ups.refl _))) | exact Ups.nilrow 1 (Ups.same (Ups.nilrow 1 (Ups.refl _))) | exact Ups.nilrow 1 (Ups.refl _) | exact Ups.same (Ups.nilrow 1 (Ups.refl _)) | exact Ups.same (Ups.same (Ups.nilrow 1 (Ups.refl _))) | exact Ups.refl _) ?_
    refine ⟨rfl, ?_⟩
    (repeat (first | ((with_reducible apply zo_end)) | ((with_reducible apply zs_assign); (exact rfl); (exact rfl)) | ((with_reducible apply zs_pick_t); (exact rfl); (exact rfl); (first | assumption | exact rfl); (exact rfl))))
    refine zr_retZ rfl (resD_tmp rfl (resD_nil _ _ _)) ?_
    exact hK
  have g2 : decide ((100 : Int) < (more.length : Nat)) = false := decide_eq_false h2
  (repeat (first | ((with_reducible apply zr_seq)) | ((with_reducible apply zr_region); (try simp only [List.append_eq, List.cons_append, List.nil_append])) | ((with_reducible apply zo_end)) | ((with_reducible apply zs_assign); (exact rfl); (exact rfl)) | ((with_reducible apply zr_cond_f); (exact rfl); (first | assumption | exact rfl)) | ((with_reducible apply zr_block)) | ((with_reducible apply zr_skip'))))
  have e0 : num ((putB n k).take 0) = 0 := by simp [num]
  refine zr_loopE (fun m env s => ∃ i : Nat, m + i = k.toNat ∧ env = [(0, .v (.int .u64 n)), (1, .v (.int .i64 k)), (2, .row (bytesD more) 1 tk), (7, .row (bytesD (putB n k)) 1 t1), (8, .v (.int .u64 (num ((putB n k).take i)))), (9, .v (.int .u64 (256 ^ i % 18446744073709551616))), (10, .v (.int .i64 (i : Nat)))] ∧ s = st) k.toNat [(0, .v (.int .u64 n)), (1, .v (.int .i64 k)), (2, .row (bytesD more) 1 tk), (7, .row (bytesD (putB n k)) 1 t1), (8, .v (.int .u64 (num ((putB n k).take 0)))), (9, .v (.int .u64 (256 ^ 0 % 18446744073709551616))), (10, .v (.int .i64 (0 : Nat)))] (sub_cons rfl (sub_cons rfl (sub_cons rfl (sub_cons rfl (sub_cons (by rw [e0]; rfl) (by repeat (first | exact sub_nil _ | refine sub_cons rfl ?_ | refine sub_cons (by first | rfl | (simp [zlook]; done)) ?_))))))) ⟨0, rfl, rfl, rfl⟩ ?_
  rintro m env s ⟨i, hm, rfl, rfl⟩
  (repeat (first | ((with_reducible apply zr_seq)) | ((with_reducible apply zr_region); (try simp only [List.append_eq, List.cons_append, List.nil_append])) | ((with_reducible apply zo_end)) | ((with_reducible apply zs_move); (exact rfl); (exact rfl)) | ((with_reducible apply zs_lss); (exact rfl); (exact rfl); (exact rfl))))
  by_cases hlt : i < k.toNat
  · have g4 : decide ((i : Int) < k) = true := decide_eq_true (by omega)
    (repeat (first | ((with_reducible apply zr_seq)) | ((with_reducible apply zr_region); (try simp only [List.append_eq, List.cons_append, List.nil_append])) | ((with_reducible apply zs_move); (exact rfl); (exact rfl)) | ((with_reducible apply zr_cond_t); (exact rfl); (first | assumption | exact rfl)) | ((with_reducible apply zr_block)) | ((with_reducible apply zr_skip'))))
    have hil : i < (putB n k).length := by rw [hlen]; exact hlt
    (try ((with_reducible apply zs_yes); exact rfl; exact rfl; (first | assumption | exact rfl))); refine zo_pure0 rfl rfl (by decide) (zp_idxB rfl (by first | exact Try.underlying22 | exact Try.underlying47 | exact Try.underlying50 | exact Try.underlying59 | exact Try.underlying61 | exact Try.underlying73 | exact Try.underlying74 | exact Try.underlying78) sz5 rfl rfl hil) ?_
    (try ((with_reducible apply zs_yes); exact rfl; exact rfl; (first | assumption | exact rfl))); refine zo_pure rfl rfl (by decide) (zp_load_ref rfl sh5 rfl rfl) ?_
    have hb := ((putB n k).getD i 0).toNat_lt
    (repeat (first | ((with_reducible apply zs_move); (exact rfl); (exact rfl)) | ((with_reducible apply zs_conv); (exact rfl); (exact rfl); (exact (by first | exact Try.underlying2 | exact Try.underlying3 | exact Try.underlying5 | exact Try.underlying6 | exact Try.underlying12 | exact Try.underlying21 | exact Try.underlying28 | exact Try.underlying30 | exact Try.underlying94 | exact Try.underlying95 | exact Try.underlying96 | exact Try.underlying99 | exact Try.underlying100)); (exact (by first | exact Try.underlying2 | exact Try.underlying3 | exact Try.underlying5 | exact Try.underlying6 | exact Try.underlying12 | exact Try.underlying21 | exact Try.underlying28 | exact Try.underlying30 | exact Try.underlying94 | exact Try.underlying95 | exact Try.underlying96 | exact Try.underlying99 | exact Try.underlying100)); (first | exact wrap_in64 (by omega) (by omega) | exact wrap_inU64 (by omega) (by omega)))))
    (try ((with_reducible apply zs_yes); exact rfl; exact rfl; (first | assumption | exact rfl))); refine zo_pure0 rfl rfl (by decide) (zp_mul rfl rfl rfl (wrap_in64 (by omega) (by omega))) ?_
    (repeat (first | ((with_reducible apply zs_conv); (exact rfl); (exact rfl); (exact (by first | exact Try.underlying2 | exact Try.underlying3 | exact Try.underlying5 | exact Try.underlying6 | exact Try.underlying12 | exact Try.underlying21 | exact Try.underlying28 | exact Try.underlying30 | exact Try.underlying94 | exact Try.underlying95 | exact Try.underlying96 | exact Try.underlying99 | exact Try.underlying100)); (exact (by first | exact Try.underlying2 | exact Try.underlying3 | exact Try.underlying5 | exact Try.underlying6 | exact Try.underlying12 | exact Try.underlying21 | exact Try.underlying28 | exact Try.underlying30 | exact Try.underlying94 | exact Try.underlying95 | exact Try.underlying96 | exact Try.underlying99 | exact Try.underlying100)); (first | exact wrap_in64 (by omega) (by omega) | exact wrap_inU64 (by omega) (by omega)))))
    (try ((with_reducible apply zs_yes); exact rfl; exact rfl; (first | assumption | exact rfl))); refine zo_pure0 rfl rfl (by decide) (zp_shr rfl rfl rfl (by omega) (shr_pow n i (by omega))) ?_
    (try ((with_reducible apply zs_yes); exact rfl; exact rfl; (first | assumption | exact rfl))); refine zo_pure0 rfl rfl (by decide) (zp_and rfl rfl rfl (and_mask 8 (by decide) (by decide) (by decide) _ _ _ rfl rfl)) ?_
    have e256 : (2 : Int) ^ 8 = 256 := rfl
    rw [e256]
    have hbv : (((putB n k).getD i 0).toNat : Int) = n / 256 ^ i % 256 := by
      unfold putB
      rw [if_pos (by omega), put_getD n _ i hlt, byteval]
    have g5 : decide ((((putB n k).getD i 0).toNat : Int) ≠ n / 256 ^ i % 256) = false := decide_eq_false (fun h => h hbv)
    (repeat (first | ((with_reducible apply zr_region); (try simp only [List.append_eq, List.cons_append, List.nil_append])) | ((with_reducible apply zo_end)) | ((with_reducible apply zs_move); (exact rfl); (exact rfl)) | ((with_reducible apply zs_neq); (exact rfl); (exact rfl); (exact rfl)) | ((with_reducible apply zr_cond_f); (exact rfl); (first | assumption | exact rfl)) | ((with_reducible apply zr_skip'))))
    (try ((with_reducible apply zs_yes); exact rfl; exact rfl; (first | assumption | exact rfl))); refine zo_pure0 rfl rfl (by decide) (zp_idxB rfl (by first | exact Try.underlying22 | exact Try.underlying47 | exact Try.underlying50 | exact Try.underlying59 | exact Try.underlying61 | exact Try.underlying73 | exact Try.underlying74 | exact Try.underlying78) sz5 rfl rfl hil) ?_
    (try ((with_reducible apply zs_yes); exact rfl; exact rfl; (first | assumption | exact rfl))); refine zo_pure rfl rfl (by decide) (zp_load_ref rfl sh5 rfl rfl) ?_
    (repeat (first | ((with_reducible apply zs_conv); (exact rfl); (exact rfl); (exact (by first | exact Try.underlying2 | exact Try.underlying3 | exact Try.underlying5 | exact Try.underlying6 | exact Try.underlying12 | exact Try.underlying21 | exact Try.underlying28 | exact Try.underlying30 | exact Try.underlying94 | exact Try.underlying95 | exact Try.underlying96 | exact Try.underlying99 | exact Try.underlying100)); (exact (by first | exact Try.underlying2 | exact Try.underlying3 | exact Try.underlying5 | exact Try.underlying6 | exact Try.underlying12 | exact Try.underlying21 | exact Try.underlying28 | exact Try.underlying30 | exact Try.underlying94 | exact Try.underlying95 | exact Try.underlying96 | exact Try.underlying99 | exact Try.underlying100)); (first | exact wrap_in64 (by omega) (by omega) | exact wrap_inU64 (by omega) (by omega)))))
    have hp : ((256 : Int) ^ i) = ((256 ^ i : Nat) : Int) := by rw [Int.natCast_pow]; rfl
    have hle : 256 ^ i ≤ 256 ^ 7 := Nat.pow_le_pow_right (by decide) (by omega)
    have e7 : (256 : Nat) ^ 7 = 72057594037927936 := by decide
    have hq : 256 ^ i < 18446744073709551616 := by omega
    have em : (256 : Int) ^ i % 18446744073709551616 = 256 ^ i := by rw [hp]; exact Int.emod_eq_of_lt (Int.natCast_nonneg _) (by exact Int.ofNat_lt.2 hq)
    have hm1 : 256 ^ i * ((putB n k).getD i 0).toNat ≤ 256 ^ i * 255 := Nat.mul_le_mul_left _ (by omega)
    have hm2 : 256 ^ i * 255 ≤ 256 ^ 7 * 255 := Nat.mul_le_mul_right _ hle
    rw [em]
    have e9 : IntKind.u64.wrap ((256 : Int) ^ i * (((putB n k).getD i 0).toNat : Int)) = 256 ^ i * (((putB n k).getD i 0).toNat : Int) := by
      rw [hp, ← Int.natCast_mul]; exact wrap_inU64 (by omega) (by omega)
    (try ((with_reducible apply zs_yes); exact rfl; exact rfl; (first | assumption | exact rfl))); refine zo_pure0 rfl rfl (by decide) (zp_mul rfl rfl rfl e9) ?_
    have hnl := num_lt ((putB n k).take (i + 1))
    have hn0' := num_nonneg ((putB n k).take (i + 1))
    rw [List.length_take_of_le (by omega)] at hnl
    have hpow : ((256 : Int) ^ (i + 1)) ≤ 18446744073709551616 := by
      have h8 : (256 : Nat) ^ (i + 1) ≤ 256 ^ 8 := Nat.pow_le_pow_right (by decide) (by omega)
      have h88 : (256 : Nat) ^ 8 = 18446744073709551616 := by decide
      have : ((256 : Int) ^ (i + 1)) = ((256 ^ (i + 1) : Nat) : Int) := by rw [Int.natCast_pow]; rfl
      omega
    rw [num_take_succ _ _ hil] at hnl hn0'
    (try ((with_reducible apply zs_yes); exact rfl; exact rfl; (first | assumption | exact rfl))); refine zo_pure0 rfl rfl (by decide) (zp_add rfl rfl rfl (wrap_inU64 hn0' (by omega))) ?_
    rw [← num_take_succ _ _ hil]
    (repeat (first | ((with_reducible apply zs_move); (exact rfl); (exact rfl))))
    have e10 : IntKind.u64.wrap ((256 : Int) ^ i * 256) = 256 ^ (i + 1) % 18446744073709551616 := by rw [IntKind.wrap_u64, Int.pow_succ]
    (try ((with_reducible apply zs_yes); exact rfl; exact rfl; (first | assumption | exact rfl))); refine zo_pure0 rfl rfl (by decide) (zp_mul rfl rfl rfl e10) ?_
    (repeat (first | ((with_reducible apply zr_region); (try simp only [List.append_eq, List.cons_append, List.nil_append])) | ((with_reducible apply zo_end)) | ((with_reducible apply zo_endB)) | ((with_reducible apply zs_move); (exact rfl); (exact rfl)) | ((with_reducible apply zs_assign); (exact rfl); (exact rfl)) | ((with_reducible apply zs_add); (exact rfl); (exact rfl); (exact rfl); (exact wrap_in64 (by omega) (by omega)))))
    refine ⟨m - 1, [(0, .v (.int .u64 n)), (1, .v (.int .i64 k)), (2, .row (bytesD more) 1 tk), (7, .row (bytesD (putB n k)) 1 t1), (8, .v (.int .u64 (num ((putB n k).take (i + 1))))), (9, .v (.int .u64 (256 ^ (i + 1) % 18446744073709551616))), (10, .v (.int .i64 ((i + 1) : Nat)))], by omega, ⟨i + 1, by omega, rfl, rfl⟩, (by repeat (first | exact sub_nil _ | refine sub_cons rfl ?_ | refine sub_cons (by first | rfl | (simp [zlook]; done)) ?_))⟩
  · have g4 : decide ((i : Int) < k) = false := decide_eq_false (by omega)
    (repeat (first | ((with_reducible apply zr_seq)) | ((with_reducible apply zr_region); (try simp only [List.append_eq, List.cons_append, List.nil_append])) | ((with_reducible apply zs_move); (exact rfl); (exact rfl)) | ((with_reducible apply zr_cond_f); (exact rfl); (first | assumption | exact rfl)) | (with_reducible refine zr_exit ?_; simp only [Zthen, Zblock, ↓reduceIte])))
    (try ((with_reducible apply zs_yes); exact rfl; exact rfl; (first | assumption | exact rfl))); refine zo_callU get_snd Try.func20 (by kernel_rfl) rfl rfl rfl rfl (by decide) rfl rfl (by first | exact Ups.nilrow 1 (Ups.nilrow 1 (Ups.nilrow 1 (Ups.refl _))) | exact Ups.nilrow 1 (Ups.nilrow 1 (Ups.refl _)) | exact Ups.same (Ups.nilrow 1 (Ups.nilrow 1 (Ups.refl _))) | exact Ups.nilrow 1 (Ups.same (Ups.nilrow 1 (Ups.refl _))) | exact Ups.nilrow 1 (Ups.refl _) | exact Ups.same (Ups.nilrow 1 (Ups.refl _)) | exact Ups.same (Ups.same (Ups.nilrow 1 (Ups.refl _))) | exact Ups.refl _) ?_
    refine ⟨_, _, rfl, by omega, ?_⟩
    have hi : i = (putB n k).length := by omega
    have g6 : decide (get (putB n k) = num ((putB n k).take i)) = true := decide_eq_true (by rw [get_short _ (by omega), hi, List.take_length])
    (repeat (first | ((with_reducible apply zs_yes); (exact rfl); (exact rfl); (first | assumption | exact rfl)) | ((with_reducible apply zs_move); (exact rfl); (exact rfl)) | ((with_reducible apply zs_eql); (exact rfl); (exact rfl); (exact rfl))))
    have ep8 : putB n 8 = put n 8 := by unfold putB; exact if_pos (by omega)
    have ep0 : putB n 0 = [] := by unfold putB; rw [if_pos (by omega)]; simp [put]
    have ep9 : putB n 9 = [] := by unfold putB; exact if_neg (by omega)
    have epm : putB n (-1) = [] := by unfold putB; exact if_neg (by omega)
    have hl8 : (putB n 8).length = 8 := putB_len n 8 (by omega) (by omega)
    (try ((with_reducible apply zs_yes); exact rfl; exact rfl; (first | assumption | exact rfl))); refine zo_callU put_snd Try.func19 (by kernel_rfl) rfl rfl rfl rfl (by decide) rfl rfl (by first | exact Ups.nilrow 1 (Ups.nilrow 1 (Ups.nilrow 1 (Ups.refl _))) | exact Ups.nilrow 1 (Ups.nilrow 1 (Ups.refl _)) | exact Ups.same (Ups.nilrow 1 (Ups.nilrow 1 (Ups.refl _))) | exact Ups.nilrow 1 (Ups.same (Ups.nilrow 1 (Ups.refl _))) | exact Ups.nilrow 1 (Ups.refl _) | exact Ups.same (Ups.nilrow 1 (Ups.refl _)) | exact Ups.same (Ups.same (Ups.nilrow 1 (Ups.refl _))) | exact Ups.refl _) ?_
    refine ⟨_, _, rfl, hn0, hn1, fun t2 ht2 ht20 => ?_⟩
    (try ((with_reducible apply zs_yes); exact rfl; exact rfl; (first | assumption | exact rfl))); refine zo_forget s (fun _ _ e => e) (fun q e => by simp [e]) ?_
    (try ((with_reducible apply zs_yes); exact rfl; exact rfl; (first | assumption | exact rfl))); refine zo_callU get_snd Try.func20 (by kernel_rfl) rfl rfl rfl rfl (by decide) rfl rfl (by first | exact Ups.nilrow 1 (Ups.nilrow 1 (Ups.nilrow 1 (Ups.refl _))) | exact Ups.nilrow 1 (Ups.nilrow 1 (Ups.refl _)) | exact Ups.same (Ups.nilrow 1 (Ups.nilrow 1 (Ups.refl _))) | exact Ups.nilrow 1 (Ups.same (Ups.nilrow 1 (Ups.refl _))) | exact Ups.nilrow 1 (Ups.refl _) | exact Ups.same (Ups.nilrow 1 (Ups.refl _)) | exact Ups.same (Ups.same (Ups.nilrow 1 (Ups.refl _))) | exact Ups.refl _) ?_
    refine ⟨_, _, rfl, by omega, ?_⟩
    have g7 : decide (get (putB n 8) = n) = true := decide_eq_true (by have := get_put8 n hn0 hn1 []; rw [List.append_nil] at this; rw [ep8, this])
    (repeat (first | ((with_reducible apply zs_yes); (exact rfl); (exact rfl); (first | assumption | exact rfl)) | ((with_reducible apply zs_move); (exact rfl); (exact rfl)) | ((with_reducible apply zs_eql); (exact rfl); (exact rfl); (exact rfl)) | ((with_reducible apply zs_pick_t); (exact rfl); (exact rfl); (first | assumption | exact rfl); (exact rfl))))
    (try ((with_reducible apply zs_yes); exact rfl; exact rfl; (first | assumption | exact rfl))); refine zo_callU put_snd Try.func19 (by kernel_rfl) rfl rfl rfl rfl (by decide) rfl rfl (by first | exact Ups.nilrow 1 (Ups.nilrow 1 (Ups.nilrow 1 (Ups.refl _))) | exact Ups.nilrow 1 (Ups.nilrow 1 (Ups.refl _)) | exact Ups.same (Ups.nilrow 1 (Ups.nilrow 1 (Ups.refl _))) | exact Ups.nilrow 1 (Ups.same (Ups.nilrow 1 (Ups.refl _))) | exact Ups.nilrow 1 (Ups.refl _) | exact Ups.same (Ups.nilrow 1 (Ups.refl _)) | exact Ups.same (Ups.same (Ups.nilrow 1 (Ups.refl _))) | exact Ups.refl _) ?_
    refine ⟨_, _, rfl, hn0, hn1, fun t3 ht3 ht30 => ?_⟩
    (repeat (first | ((with_reducible apply zs_yes); (exact rfl); (exact rfl); (first | assumption | exact rfl)) | ((with_reducible apply zs_move); (exact rfl); (exact rfl))))
    (try ((with_reducible apply zs_yes); exact rfl; exact rfl; (first | assumption | exact rfl))); refine zo_val rfl rfl (by decide) (zv_append rfl el5 (by first | exact Try.underlying22 | exact Try.underlying47 | exact Try.underlying50 | exact Try.underlying59 | exact Try.underlying61 | exact Try.underlying73 | exact Try.underlying74 | exact Try.underlying78) rfl (by simp) rfl (by simp [hl8]; omega) fun t4 ht4 ht40 => ?_)
    rw [St.setT_back ht3]
    rw [← bytesD_append]
    (try ((with_reducible apply zs_yes); exact rfl; exact rfl; (first | assumption | exact rfl))); refine zo_forget s (fun _ _ e => e) (fun q e => by simp [e]) ?_
    (try ((with_reducible apply zs_yes); exact rfl; exact rfl; (first | assumption | exact rfl))); refine zo_callU get_snd Try.func20 (by kernel_rfl) rfl rfl rfl rfl (by decide) rfl rfl (by first | exact Ups.nilrow 1 (Ups.nilrow 1 (Ups.nilrow 1 (Ups.refl _))) | exact Ups.nilrow 1 (Ups.nilrow 1 (Ups.refl _)) | exact Ups.same (Ups.nilrow 1 (Ups.nilrow 1 (Ups.refl _))) | exact Ups.nilrow 1 (Ups.same (Ups.nilrow 1 (Ups.refl _))) | exact Ups.nilrow 1 (Ups.refl _) | exact Ups.same (Ups.nilrow 1 (Ups.refl _)) | exact Ups.same (Ups.same (Ups.nilrow 1 (Ups.refl _))) | exact Ups.refl _) ?_
    refine ⟨_, _, rfl, by simp [hl8]; omega, ?_⟩
    have g8 : decide (get (putB n 8 ++ more) = n) = true := decide_eq_true (by rw [ep8, get_put8 n hn0 hn1])
    (repeat (first | ((with_reducible apply zs_yes); (exact rfl); (exact rfl); (first | assumption | exact rfl)) | ((with_reducible apply zs_move); (exact rfl); (exact rfl)) | ((with_reducible apply zs_eql); (exact rfl); (exact rfl); (exact rfl)) | ((with_reducible apply zs_pick_t); (exact rfl); (exact rfl); (first | assumption | exact rfl); (exact rfl))))
    (try ((with_reducible apply zs_yes); exact rfl; exact rfl; (first | assumption | exact rfl))); refine zo_callU put_snd Try.func19 (by kernel_rfl) rfl rfl rfl rfl (by decide) rfl rfl (by first | exact Ups.nilrow 1 (Ups.nilrow 1 (Ups.nilrow 1 (Ups.refl _))) | exact Ups.nilrow 1 (Ups.nilrow 1 (Ups.refl _)) | exact Ups.same (Ups.nilrow 1 (Ups.nilrow 1 (Ups.refl _))) | exact Ups.nilrow 1 (Ups.same (Ups.nilrow 1 (Ups.refl _))) | exact Ups.nilrow 1 (Ups.refl _) | exact Ups.same (Ups.nilrow 1 (Ups.refl _)) | exact Ups.same (Ups.same (Ups.nilrow 1 (Ups.refl _))) | exact Ups.refl _) ?_
    refine ⟨_, _, rfl, hn0, hn1, fun t5 ht5 ht50 => ?_⟩
    rw [ep0]
    (try ((with_reducible apply zs_yes); exact rfl; exact rfl; (first | assumption | exact rfl))); refine zo_forget s (fun _ _ e => e) (fun q e => by simp [e]) ?_
    (repeat (first | ((with_reducible apply zs_yes); (exact rfl); (exact rfl); (first | assumption | exact rfl)) | ((with_reducible apply zs_move); (exact rfl); (exact rfl)) | ((with_reducible apply zs_eql); (exact rfl); (exact rfl); (exact rfl)) | ((with_reducible apply zs_pick_t); (exact rfl); (exact rfl); (first | assumption | exact rfl); (exact rfl)) | ((with_reducible apply zs_lenB); (exact rfl); (exact rfl); (exact (by first | exact Try.underlying22 | exact Try.underlying47 | exact Try.underlying50 | exact Try.underlying59 | exact Try.underlying61 | exact Try.underlying73 | exact Try.underlying74 | exact Try.underlying78)))))
    (try ((with_reducible apply zs_yes); exact rfl; exact rfl; (first | assumption | exact rfl))); refine zo_callU put_snd Try.func19 (by kernel_rfl) rfl rfl rfl rfl (by decide) rfl rfl (by first | exact Ups.nilrow 1 (Ups.nilrow 1 (Ups.nilrow 1 (Ups.refl _))) | exact Ups.nilrow 1 (Ups.nilrow 1 (Ups.refl _)) | exact Ups.same (Ups.nilrow 1 (Ups.nilrow 1 (Ups.refl _))) | exact Ups.nilrow 1 (Ups.same (Ups.nilrow 1 (Ups.refl _))) | exact Ups.nilrow 1 (Ups.refl _) | exact Ups.same (Ups.nilrow 1 (Ups.refl _)) | exact Ups.same (Ups.same (Ups.nilrow 1 (Ups.refl _))) | exact Ups.refl _) ?_
    refine ⟨_, _, rfl, hn0, hn1, fun t6 ht6 ht60 => ?_⟩
    rw [ep9]
    (try ((with_reducible apply zs_yes); exact rfl; exact rfl; (first | assumption | exact rfl))); refine zo_forget s (fun _ _ e => e) (fun q e => by simp [e]) ?_
    (repeat (first | ((with_reducible apply zs_yes); (exact rfl); (exact rfl); (first | assumption | exact rfl)) | ((with_reducible apply zs_move); (exact rfl); (exact rfl)) | ((with_reducible apply zs_eql); (exact rfl); (exact rfl); (exact rfl)) | ((with_reducible apply zs_pick_t); (exact rfl); (exact rfl); (first | assumption | exact rfl); (exact rfl)) | ((with_reducible apply zs_lenB); (exact rfl); (exact rfl); (exact (by first | exact Try.underlying22 | exact Try.underlying47 | exact Try.underlying50 | exact Try.underlying59 | exact Try.underlying61 | exact Try.underlying73 | exact Try.underlying74 | exact Try.underlying78)))))
    (try ((with_reducible apply zs_yes); exact rfl; exact rfl; (first | assumption | exact rfl))); refine zo_callU put_snd Try.func19 (by kernel_rfl) rfl rfl rfl rfl (by decide) rfl rfl (by first | exact Ups.nilrow 1 (Ups.nilrow 1 (Ups.nilrow 1 (Ups.refl _))) | exact Ups.nilrow 1 (Ups.nilrow 1 (Ups.refl _)) | exact Ups.same (Ups.nilrow 1 (Ups.nilrow 1 (Ups.refl _))) | exact Ups.nilrow 1 (Ups.same (Ups.nilrow 1 (Ups.refl _))) | exact Ups.nilrow 1 (Ups.refl _) | exact Ups.same (Ups.nilrow 1 (Ups.refl _)) | exact Ups.same (Ups.same (Ups.nilrow 1 (Ups.refl _))) | exact Ups.refl _) ?_
    refine ⟨_, _, rfl, hn0, hn1, fun t7 ht7 ht70 => ?_⟩
    rw [epm]
    (try ((with_reducible apply zs_yes); exact rfl; exact rfl; (first | assumption | exact rfl))); refine zo_forget s (fun _ _ e => e) (fun q e => by simp [e]) ?_
    (repeat (first | ((with_reducible apply zs_yes); (exact rfl); (exact rfl); (first | assumption | exact rfl)) | ((with_reducible apply zs_move); (exact rfl); (exact rfl)) | ((with_reducible apply zs_eql); (exact rfl); (exact rfl); (exact rfl)) | ((with_reducible apply zs_pick_t); (exact rfl); (exact rfl); (first | assumption | exact rfl); (exact rfl)) | ((with_reducible apply zs_lenB); (exact rfl); (exact rfl); (exact (by first | exact Try.underlying22 | exact Try.underlying47 | exact Try.underlying50 | exact Try.underlying59 | exact Try.underlying61 | exact Try.underlying73 | exact Try.underlying74 | exact Try.underlying78)))))
    (try ((with_reducible apply zs_yes); exact rfl; exact rfl; (first | assumption | exact rfl))); refine zo_callU awake_snd Try.func15 (by kernel_rfl) rfl rfl rfl rfl (by decide) rfl rfl (by first | exact Ups.nilrow 1 (Ups.nilrow 1 (Ups.nilrow 1 (Ups.refl _))) | exact Ups.nilrow 1 (Ups.nilrow 1 (Ups.refl _)) | exact Ups.same (Ups.nilrow 1 (Ups.nilrow 1 (Ups.refl _))) | exact Ups.nilrow 1 (Ups.same (Ups.nilrow 1 (Ups.refl _))) | exact Ups.nilrow 1 (Ups.refl _) | exact Ups.same (Ups.nilrow 1 (Ups.refl _)) | exact Ups.same (Ups.same (Ups.nilrow 1 (Ups.refl _))) | exact Ups.refl _) ?_
    refine ⟨rfl, ?_⟩
    (repeat (first | ((with_reducible apply zo_end)) | ((with_reducible apply zs_assign); (exact rfl); (exact rfl)) | ((with_reducible apply zs_pick_t); (exact rfl); (exact rfl); (first | assumption | exact rfl); (exact rfl))))
    refine zr_retZ rfl (resD_tmp rfl (resD_nil _ _ _)) ?_
    exact hK
end Go.Proofs.ZtLe
