/- A part of the proof of PosmBounds: walks of the functions that it reaches. No condition. -/
import Derived.Test.YtpelekdimmfldaaZtLeN
namespace Go.Proofs.ZtLe
open Go.RowKit Go.Proofs Go.Proofs.Zm
set_option linter.unusedVariables false
set_option linter.unusedSimpArgs false
set_option maxHeartbeats 20000000
attribute [local irreducible] ZWp ZOps ZPure ZPure0 ZVal ZOp SoundF

/-! ### padded rows -/
def padded (l : List UInt8) (m : Nat) : List UInt8 := putB (l.length : Nat) 2 ++ l ++ List.replicate (m - l.length) 0
theorem putB2_length (n : Int) : (putB n 2).length = 2 := putB_len n 2 (by omega) (by omega)
theorem padded_length (l : List UInt8) (m : Nat) (h : l.length ≤ m) : (padded l m).length = m + 2 := by simp [padded, putB2_length]; omega
theorem padL_some (l : List UInt8) (m : Nat) (h : l.length ≤ m) (hm : m ≤ 60000) : padL l (m : Nat) = some (padded l m) := by
  unfold padL padded
  rw [if_pos (by omega), Int.toNat_natCast]
theorem zero_replicate (k : Nat) : zero (List.replicate k 0) = true := zero_of _ fun j hj => by
  rw [List.length_replicate] at hj
  rw [List.getD_eq_getElem?_getD, List.getElem?_replicate, if_pos hj]; rfl
theorem get_putB2 (k : Nat) (h : k < 65536) : get (putB (k : Nat) 2) = k := by
  rw [get_short _ (by rw [putB2_length]; omega)]
  unfold putB
  rw [if_pos (by omega), num_put _ _ (by omega)]
  have : (256 : Int) ^ (Int.toNat 2) = 65536 := by decide
  rw [this]
  omega
theorem unpad_padded (l : List UInt8) (m : Nat) (h : l.length ≤ m) (hm : m ≤ 60000) : unpadL (padded l m) (m : Nat) = some l := by
  have hl := padded_length l m h
  have h2 : (padded l m).take 2 = putB (l.length : Nat) 2 := by
    unfold padded
    rw [List.append_assoc, List.take_append_of_le_length (by rw [putB2_length]; omega), List.take_of_length_le (by rw [putB2_length]; omega)]
  have hd : (padded l m).drop (2 + l.length) = List.replicate (m - l.length) 0 := by
    unfold padded
    rw [List.drop_append_of_le_length (by simp [putB2_length]), List.drop_eq_nil_of_le (by simp [putB2_length]), List.nil_append]
  have ht : ((padded l m).take (2 + l.length)).drop 2 = l := by
    unfold padded
    rw [List.take_append_of_le_length (by simp [putB2_length]), List.take_of_length_le (by simp [putB2_length]), List.drop_append_of_le_length (by rw [putB2_length]; omega), List.drop_eq_nil_of_le (by rw [putB2_length]; omega), List.nil_append]
  unfold unpadL
  rw [if_pos (by omega), h2, get_putB2 _ (by omega), Int.toNat_natCast, hd, ht, if_pos ⟨by omega, zero_replicate _⟩]
theorem padded_inj (l k : List UInt8) (m : Nat) (h : l.length ≤ m) (h' : k.length ≤ m) (hm : m ≤ 60000) : padded l m = padded k m ↔ l = k := by
  refine ⟨fun e => ?_, fun e => by rw [e]⟩
  have h1 := unpad_padded l m h hm
  rw [e, unpad_padded k m h' hm] at h1
  exact (Option.some.inj h1).symm
theorem padL_none (l : List UInt8) (m : Nat) (h : m < l.length) : padL l (m : Nat) = none := by
  unfold padL
  exact if_neg (by omega)

attribute [local irreducible] unpadL sumL step padded
def backSpec : ZSpec := fun args st K => ∃ (n size : Int) (b c : List UInt8) (tb tc : Nat), args = [.v (.int .u64 n), .v (.int .i64 size), .row (bytesD b) 1 tb, .row (bytesD c) 1 tc] ∧
  0 ≤ n ∧ n < 18446744073709551616 ∧ b.length ≤ 140737488351232 ∧ c.length ≤ 140737488351232 ∧ K (.v (.bool true)) st

theorem back_snd : SoundF Try.prog 6 backSpec := by
  refine sound_of Try.func6 rfl Try.results6 ?_
  rintro w0 args st K ⟨n, size, b, c, tb, tc, rfl, hn0, hn1, hb, hc, hK⟩
  rw [Try.ntmps6]; refine ⟨by simp, ?_⟩
  (repeat (first | ((with_reducible apply zr_seq)) | ((with_reducible apply zr_region); (try simp only [List.append_eq, List.cons_append, List.nil_append])) | ((with_reducible apply zo_end)) | ((with_reducible apply zs_move); (exact rfl); (exact rfl)) | ((with_reducible apply zs_assign); (exact rfl); (exact rfl)) | ((with_reducible apply zs_gtr); (exact rfl); (exact rfl); (exact rfl)) | ((with_reducible apply zs_add); (exact rfl); (exact rfl); (exact rfl); (exact wrap_in64 (by omega) (by omega))) | ((with_reducible apply zs_lenB); (exact rfl); (exact rfl); (exact (by first | exact Try.underlying22 | exact Try.underlying47 | exact Try.underlying50 | exact Try.underlying59 | exact Try.underlying61 | exact Try.underlying73 | exact Try.underlying74 | exact Try.underlying78)))))
  by_cases h1 : (2000 : Int) < (b.length : Nat) + (c.length : Nat)
  · have g1 : decide ((2000 : Int) < (b.length : Nat) + (c.length : Nat)) = true := decide_eq_true h1
    (repeat (first | ((with_reducible apply zr_seq)) | ((with_reducible apply zr_region); (try simp only [List.append_eq, List.cons_append, List.nil_append])) | ((with_reducible apply zr_cond_t); (exact rfl); (first | assumption | exact rfl))))
    (try ((with_reducible apply zs_yes); exact rfl; exact rfl; (first | assumption | exact rfl))); refine zo_callU awake_snd Try.func15 (by kernel_rfl) rfl rfl rfl rfl (by decide) rfl rfl (by first | exact Ups.nilrow 1 (Ups.nilrow 1 (Ups.nilrow 1 (Ups.refl _))) | exact Ups.nilrow 1 (Ups.nilrow 1 (Ups.refl _)) | exact Ups.same (Ups.nilrow 1 (Ups.nilrow 1 (Ups.refl _))) | exact Ups.nilrow 1 (Ups.same (Ups.nilrow 1 (Ups.refl _))) | exact Ups.nilrow 1 (Ups.refl _) | exact Ups.same (Ups.nilrow 1 (Ups.refl _)) | exact Ups.same (Ups.same (Ups.nilrow 1 (Ups.refl _))) | exact Ups.refl _) ?_
    refine ⟨rfl, ?_⟩
    (repeat (first | ((with_reducible apply zo_end)) | ((with_reducible apply zs_assign); (exact rfl); (exact rfl))))
    refine zr_retZ rfl (resD_tmp rfl (resD_nil _ _ _)) ?_
    exact hK
  have g1 : decide ((2000 : Int) < (b.length : Nat) + (c.length : Nat)) = false := decide_eq_false h1
  (repeat (first | ((with_reducible apply zr_seq)) | ((with_reducible apply zr_region); (try simp only [List.append_eq, List.cons_append, List.nil_append])) | ((with_reducible apply zs_move); (exact rfl); (exact rfl)) | ((with_reducible apply zr_cond_f); (exact rfl); (first | assumption | exact rfl)) | ((with_reducible apply zr_skip'))))
  (try ((with_reducible apply zs_yes); exact rfl; exact rfl; (first | assumption | exact rfl))); refine zo_pure0 rfl rfl (by decide) (zp_and rfl rfl rfl (and_mask 3 (by decide) (by decide) (by decide) _ _ _ rfl rfl)) ?_
  have e8 : (2 : Int) ^ 3 = 8 := rfl
  rw [e8]
  have hk0 : 0 ≤ size % 8 := by omega
  obtain ⟨k, hk⟩ : ∃ k : Nat, size % 8 + 1 = (k : Int) := ⟨(size % 8 + 1).toNat, by omega⟩
  have hk1 : 1 ≤ k := by omega
  have hk8 : k ≤ 8 := by omega
  (repeat (first | ((with_reducible apply zr_seq)) | ((with_reducible apply zr_region); (try simp only [List.append_eq, List.cons_append, List.nil_append])) | ((with_reducible apply zo_end)) | ((with_reducible apply zs_move); (exact rfl); (exact rfl)) | ((with_reducible apply zs_assign); (exact rfl); (exact rfl)) | ((with_reducible apply zs_add); (exact rfl); (exact rfl); (exact rfl); (exact wrap_in64 (by omega) (by omega))) | ((with_reducible apply zs_lenB); (exact rfl); (exact rfl); (exact (by first | exact Try.underlying22 | exact Try.underlying47 | exact Try.underlying50 | exact Try.underlying59 | exact Try.underlying61 | exact Try.underlying73 | exact Try.underlying74 | exact Try.underlying78)))))
  rw [hk]
  (try ((with_reducible apply zs_yes); exact rfl; exact rfl; (first | assumption | exact rfl))); refine zo_pure0 rfl rfl (by decide) (zp_max rfl rfl rfl (r := ((max b.length c.length : Nat) : Int)) (by omega)) ?_
  (repeat (first | ((with_reducible apply zr_seq)) | ((with_reducible apply zr_region); (try simp only [List.append_eq, List.cons_append, List.nil_append])) | ((with_reducible apply zo_end)) | ((with_reducible apply zs_move); (exact rfl); (exact rfl)) | ((with_reducible apply zs_assign); (exact rfl); (exact rfl)) | ((with_reducible apply zs_add); (exact rfl); (exact rfl); (exact rfl); (exact wrap_in64 (by omega) (by omega)))))
  obtain ⟨M, hM⟩ : ∃ M : Nat, ((max b.length c.length : Nat) : Int) + (k : Int) = (M : Int) := ⟨max b.length c.length + k, by omega⟩
  have hMb : b.length ≤ M := by omega
  have hMc : c.length ≤ M := by omega
  have hM6 : M ≤ 60000 := by omega
  have hM0 : 0 < M := by omega
  rw [hM]
  have pb := padL_some b M hMb hM6
  have pc := padL_some c M hMc hM6
  have lb := padded_length b M hMb
  have lc := padded_length c M hMc
  (try ((with_reducible apply zs_yes); exact rfl; exact rfl; (first | assumption | exact rfl))); refine zo_callU pad_snd Try.func16 (by kernel_rfl) rfl rfl rfl rfl (by decide) rfl rfl (by first | exact Ups.nilrow 1 (Ups.nilrow 1 (Ups.nilrow 1 (Ups.refl _))) | exact Ups.nilrow 1 (Ups.nilrow 1 (Ups.refl _)) | exact Ups.same (Ups.nilrow 1 (Ups.nilrow 1 (Ups.refl _))) | exact Ups.nilrow 1 (Ups.same (Ups.nilrow 1 (Ups.refl _))) | exact Ups.nilrow 1 (Ups.refl _) | exact Ups.same (Ups.nilrow 1 (Ups.refl _)) | exact Ups.same (Ups.same (Ups.nilrow 1 (Ups.refl _))) | exact Ups.refl _) ?_
  refine ⟨_, _, _, rfl, by omega, fun t1 ht1 ht10 => ?_⟩
  rw [pb]
  (try ((with_reducible apply zs_yes); exact rfl; exact rfl; (first | assumption | exact rfl))); refine zo_forget st (fun _ _ e => e) (fun q e => by simp [e]) ?_
  (repeat (first | ((with_reducible apply zr_seq)) | ((with_reducible apply zr_region); (try simp only [List.append_eq, List.cons_append, List.nil_append])) | ((with_reducible apply zo_end)) | ((with_reducible apply zs_move); (exact rfl); (exact rfl)) | ((with_reducible apply zs_assign); (exact rfl); (exact rfl)) | ((with_reducible apply zs_extract); (exact rfl); (exact rfl); (exact rfl))))
  (try ((with_reducible apply zs_yes); exact rfl; exact rfl; (first | assumption | exact rfl))); refine zo_callU pad_snd Try.func16 (by kernel_rfl) rfl rfl rfl rfl (by decide) rfl rfl (by first | exact Ups.nilrow 1 (Ups.nilrow 1 (Ups.nilrow 1 (Ups.refl _))) | exact Ups.nilrow 1 (Ups.nilrow 1 (Ups.refl _)) | exact Ups.same (Ups.nilrow 1 (Ups.nilrow 1 (Ups.refl _))) | exact Ups.nilrow 1 (Ups.same (Ups.nilrow 1 (Ups.refl _))) | exact Ups.nilrow 1 (Ups.refl _) | exact Ups.same (Ups.nilrow 1 (Ups.refl _)) | exact Ups.same (Ups.same (Ups.nilrow 1 (Ups.refl _))) | exact Ups.refl _) ?_
  refine ⟨_, _, _, rfl, by omega, fun t2 ht2 ht20 => ?_⟩
  rw [pc]
  (try ((with_reducible apply zs_yes); exact rfl; exact rfl; (first | assumption | exact rfl))); refine zo_forget st (fun _ _ e => e) (fun q e => by simp [e]) ?_
  (repeat (first | ((with_reducible apply zr_seq)) | ((with_reducible apply zr_region); (try simp only [List.append_eq, List.cons_append, List.nil_append])) | ((with_reducible apply zo_end)) | ((with_reducible apply zs_move); (exact rfl); (exact rfl)) | ((with_reducible apply zs_assign); (exact rfl); (exact rfl)) | ((with_reducible apply zs_extract); (exact rfl); (exact rfl); (exact rfl))))
  (try ((with_reducible apply zs_yes); exact rfl; exact rfl; (first | assumption | exact rfl))); refine zo_callU unpad_snd Try.func17 (by kernel_rfl) rfl rfl rfl rfl (by decide) rfl rfl (by first | exact Ups.nilrow 1 (Ups.nilrow 1 (Ups.nilrow 1 (Ups.refl _))) | exact Ups.nilrow 1 (Ups.nilrow 1 (Ups.refl _)) | exact Ups.same (Ups.nilrow 1 (Ups.nilrow 1 (Ups.refl _))) | exact Ups.nilrow 1 (Ups.same (Ups.nilrow 1 (Ups.refl _))) | exact Ups.nilrow 1 (Ups.refl _) | exact Ups.same (Ups.nilrow 1 (Ups.refl _)) | exact Ups.same (Ups.same (Ups.nilrow 1 (Ups.refl _))) | exact Ups.refl _) ?_
  refine ⟨padded b M, _, _, rfl, by omega, fun t3 ht3 ht30 => ?_⟩
  rw [unpad_padded b M hMb hM6]
  (try ((with_reducible apply zs_yes); exact rfl; exact rfl; (first | assumption | exact rfl))); refine zo_forget st (fun _ _ e => e) (fun q e => by simp [e]) ?_
  (repeat (first | ((with_reducible apply zr_seq)) | ((with_reducible apply zr_region); (try simp only [List.append_eq, List.cons_append, List.nil_append])) | ((with_reducible apply zo_end)) | ((with_reducible apply zs_move); (exact rfl); (exact rfl)) | ((with_reducible apply zs_assign); (exact rfl); (exact rfl)) | ((with_reducible apply zs_extract); (exact rfl); (exact rfl); (exact rfl))))
  (try ((with_reducible apply zs_yes); exact rfl; exact rfl; (first | assumption | exact rfl))); refine zo_val rfl rfl (by decide) (zv_make rfl el5 (by simp [oneD, Value.oneCell']) (by first | exact Try.underlying22 | exact Try.underlying47 | exact Try.underlying50 | exact Try.underlying59 | exact Try.underlying61 | exact Try.underlying73 | exact Try.underlying74 | exact Try.underlying78) rfl rfl (by omega) (by omega) (by simp; omega) fun t4 ht4 ht40 => ?_)
  rw [Int.toNat_natCast, zeros]
  (try ((with_reducible apply zs_yes); exact rfl; exact rfl; (first | assumption | exact rfl))); refine zo_val rfl rfl (by decide) (zv_lit (xs := [.const (.int .u8 1)]) rfl rfl el5 (by first | exact Try.underlying22 | exact Try.underlying47 | exact Try.underlying50 | exact Try.underlying59 | exact Try.underlying61 | exact Try.underlying73 | exact Try.underlying74 | exact Try.underlying78) rfl (by simp [cellsD, oneD, Value.oneCell']) (by decide) ?_)
  (try ((with_reducible apply zs_yes); exact rfl; exact rfl; (first | assumption | exact rfl))); refine zo_val rfl rfl (by decide) (zv_append rfl el5 (by first | exact Try.underlying22 | exact Try.underlying47 | exact Try.underlying50 | exact Try.underlying59 | exact Try.underlying61 | exact Try.underlying73 | exact Try.underlying74 | exact Try.underlying78) rfl (by simp) rfl (by simp; omega) fun t5 ht5 ht50 => ?_)
  rw [St.setT_back ht4]
  rw [show bytesD (List.replicate M 0) ++ List.map cellsD [D.v (Value.int IntKind.u8 1)] = bytesD (List.replicate M 0 ++ [1]) by simp [bytesD, cellsD]]
  (try ((with_reducible apply zs_yes); exact rfl; exact rfl; (first | assumption | exact rfl))); refine zo_forget st (fun _ _ e => e) (fun q e => by simp [e]) ?_
  (repeat (first | ((with_reducible apply zs_move); (exact rfl); (exact rfl))))
  (try ((with_reducible apply zs_yes); exact rfl; exact rfl; (first | assumption | exact rfl))); refine zo_callU pad_snd Try.func16 (by kernel_rfl) rfl rfl rfl rfl (by decide) rfl rfl (by first | exact Ups.nilrow 1 (Ups.nilrow 1 (Ups.nilrow 1 (Ups.refl _))) | exact Ups.nilrow 1 (Ups.nilrow 1 (Ups.refl _)) | exact Ups.same (Ups.nilrow 1 (Ups.nilrow 1 (Ups.refl _))) | exact Ups.nilrow 1 (Ups.same (Ups.nilrow 1 (Ups.refl _))) | exact Ups.nilrow 1 (Ups.refl _) | exact Ups.same (Ups.nilrow 1 (Ups.refl _)) | exact Ups.same (Ups.same (Ups.nilrow 1 (Ups.refl _))) | exact Ups.refl _) ?_
  refine ⟨_, _, _, rfl, by simp; omega, fun t6 ht6 ht60 => ?_⟩
  rw [padL_none _ M (by simp)]
  (try ((with_reducible apply zs_yes); exact rfl; exact rfl; (first | assumption | exact rfl))); refine zo_forget st (fun _ _ e => e) (fun q e => by simp [e]) ?_
  (repeat (first | ((with_reducible apply zr_seq)) | ((with_reducible apply zr_region); (try simp only [List.append_eq, List.cons_append, List.nil_append])) | ((with_reducible apply zo_end)) | ((with_reducible apply zs_move); (exact rfl); (exact rfl)) | ((with_reducible apply zs_assign); (exact rfl); (exact rfl)) | ((with_reducible apply zs_lss); (exact rfl); (exact rfl); (exact rfl)) | ((with_reducible apply zs_extract); (exact rfl); (exact rfl); (exact rfl))))
  refine zr_cut [(0, .v (.int .u64 n)), (1, .v (.int .i64 (k : Nat))), (2, .row (bytesD b) 1 tb), (3, .row (bytesD c) 1 tc), (9, .v (.int .i64 (M : Nat))), (10, .row (bytesD (padded b M)) 1 t1), (11, .v (.bool true)), (12, .row (bytesD (padded c M)) 1 t2), (13, .v (.bool true)), (14, .row (bytesD b) 1 t3), (15, .v (.bool true)), (17, .v (.bool false)), (18, .v (.int .u64 (n % 256 ^ k)))] st ?_ ?_
  · by_cases hk : k < 8
    · have g2 : decide ((k : Int) < 8) = true := decide_eq_true (by omega)
      (repeat (first | ((with_reducible apply zr_region); (try simp only [List.append_eq, List.cons_append, List.nil_append])) | ((with_reducible apply zs_move); (exact rfl); (exact rfl)) | ((with_reducible apply zr_cond_t); (exact rfl); (first | assumption | exact rfl))))
      (try ((with_reducible apply zs_yes); exact rfl; exact rfl; (first | assumption | exact rfl))); refine zo_pure0 rfl rfl (by decide) (zp_mul rfl rfl rfl (wrap_in64 (by omega) (by omega))) ?_
      (repeat (first | ((with_reducible apply zs_conv); (exact rfl); (exact rfl); (exact (by first | exact Try.underlying2 | exact Try.underlying3 | exact Try.underlying5 | exact Try.underlying6 | exact Try.underlying12 | exact Try.underlying21 | exact Try.underlying28 | exact Try.underlying30 | exact Try.underlying94 | exact Try.underlying95 | exact Try.underlying96 | exact Try.underlying99 | exact Try.underlying100)); (exact (by first | exact Try.underlying2 | exact Try.underlying3 | exact Try.underlying5 | exact Try.underlying6 | exact Try.underlying12 | exact Try.underlying21 | exact Try.underlying28 | exact Try.underlying30 | exact Try.underlying94 | exact Try.underlying95 | exact Try.underlying96 | exact Try.underlying99 | exact Try.underlying100)); (first | exact wrap_in64 (by omega) (by omega) | exact wrap_inU64 (by omega) (by omega)))))
      have hp : ((256 : Int) ^ k) = ((256 ^ k : Nat) : Int) := by rw [Int.natCast_pow]; rfl
      have hle : 256 ^ k ≤ 256 ^ 7 := Nat.pow_le_pow_right (by decide) (by omega)
      have hpos : 0 < 256 ^ k := Nat.pow_pos (by decide)
      have e7 : (256 : Nat) ^ 7 = 72057594037927936 := by decide
      have es : IntKind.u64.wrap (1 * 2 ^ min (Int.toNat (8 * (k : Int))) IntKind.u64.bits) = 256 ^ k := by
        have : min (Int.toNat (8 * (k : Nat))) IntKind.u64.bits = 8 * k := by
          have h1 : (8 * (k : Int)).toNat = 8 * k := by omega
          have h2 : IntKind.u64.bits = 64 := rfl
          omega
        rw [this, Int.one_mul, Int.pow_mul, show (2 : Int) ^ 8 = 256 from rfl, hp]
        exact wrap_inU64 (by omega) (by omega)
      (try ((with_reducible apply zs_yes); exact rfl; exact rfl; (first | assumption | exact rfl))); refine zo_pure0 rfl rfl (by decide) (zp_shl rfl rfl rfl (by omega) es) ?_
      (try ((with_reducible apply zs_yes); exact rfl; exact rfl; (first | assumption | exact rfl))); refine zo_pure0 rfl rfl (by decide) (zp_sub rfl rfl rfl (wrap_inU64 (by rw [hp]; omega) (by rw [hp]; omega))) ?_
      have e9 : (2 : Int) ^ (8 * k) = 256 ^ k := by rw [Int.pow_mul]; rfl
      (try ((with_reducible apply zs_yes); exact rfl; exact rfl; (first | assumption | exact rfl))); refine zo_pure0 rfl rfl (by decide) (zp_and rfl rfl rfl (and_mask (8 * k) (by simp [IntKind.bits]; omega) (by decide) (by intro h; cases h) _ _ _ (by rw [e9]) (by rw [e9]))) ?_
      (repeat (first | ((with_reducible apply zo_end)) | ((with_reducible apply zs_assign); (exact rfl); (exact rfl))))
      exact ⟨(by repeat (first | exact sub_nil _ | refine sub_cons rfl ?_ | refine sub_cons (by first | rfl | (simp [zlook]; done)) ?_)), rfl⟩
    · have g2 : decide ((k : Int) < 8) = false := decide_eq_false (by omega)
      (repeat (first | ((with_reducible apply zr_cond_f); (exact rfl); (first | assumption | exact rfl)) | ((with_reducible apply zr_skip'))))
      have : n % 256 ^ k = n := by
        rw [show k = 8 by omega]
        have : (256 : Int) ^ 8 = 18446744073709551616 := by decide
        omega
      rw [this]
      exact ⟨(by repeat (first | exact sub_nil _ | refine sub_cons rfl ?_ | refine sub_cons (by first | rfl | (simp [zlook]; done)) ?_)), rfl⟩
  have ek := putB_len n (k : Nat) (by omega) (by omega)
  have g3 : decide (((padded b M).length : Int) = (M : Nat) + 2) = true := decide_eq_true (by omega)
  have g4 : decide (((padded c M).length : Int) = (M : Nat) + 2) = true := decide_eq_true (by omega)
  (repeat (first | ((with_reducible apply zr_seq)) | ((with_reducible apply zr_region); (try simp only [List.append_eq, List.cons_append, List.nil_append])) | ((with_reducible apply zs_yes); (exact rfl); (exact rfl); (first | assumption | exact rfl)) | ((with_reducible apply zs_move); (exact rfl); (exact rfl)) | ((with_reducible apply zs_eql); (exact rfl); (exact rfl); (exact rfl)) | ((with_reducible apply zs_pick_t); (exact rfl); (exact rfl); (first | assumption | exact rfl); (exact rfl)) | ((with_reducible apply zs_add); (exact rfl); (exact rfl); (exact rfl); (exact wrap_in64 (by omega) (by omega))) | ((with_reducible apply zs_lenB); (exact rfl); (exact rfl); (exact (by first | exact Try.underlying22 | exact Try.underlying47 | exact Try.underlying50 | exact Try.underlying59 | exact Try.underlying61 | exact Try.underlying73 | exact Try.underlying74 | exact Try.underlying78)))))
  (try ((with_reducible apply zs_yes); exact rfl; exact rfl; (first | assumption | exact rfl))); refine zo_pure rfl rfl (by decide) (zp_toStr rfl (by first | exact Try.underlying22 | exact Try.underlying47 | exact Try.underlying50 | exact Try.underlying59 | exact Try.underlying61 | exact Try.underlying73 | exact Try.underlying74 | exact Try.underlying78) Try.underlying5 Try.underlying9 rfl) ?_
  (repeat (first | ((with_reducible apply zs_yes); (exact rfl); (exact rfl); (first | assumption | exact rfl)) | ((with_reducible apply zs_move); (exact rfl); (exact rfl))))
  (try ((with_reducible apply zs_yes); exact rfl; exact rfl; (first | assumption | exact rfl))); refine zo_pure rfl rfl (by decide) (zp_toStr rfl (by first | exact Try.underlying22 | exact Try.underlying47 | exact Try.underlying50 | exact Try.underlying59 | exact Try.underlying61 | exact Try.underlying73 | exact Try.underlying74 | exact Try.underlying78) Try.underlying5 Try.underlying9 rfl) ?_
  (try ((with_reducible apply zs_yes); exact rfl; exact rfl; (first | assumption | exact rfl))); refine zo_pure0 rfl rfl (by decide) (zp_str (r := .bool true) rfl rfl rfl (.inl ⟨rfl, by simp⟩)) ?_
  (repeat (first | ((with_reducible apply zs_yes); (exact rfl); (exact rfl); (first | assumption | exact rfl)) | ((with_reducible apply zs_move); (exact rfl); (exact rfl)) | ((with_reducible apply zs_pick_t); (exact rfl); (exact rfl); (first | assumption | exact rfl); (exact rfl))))
  (try ((with_reducible apply zs_yes); exact rfl; exact rfl; (first | assumption | exact rfl))); refine zo_pure rfl rfl (by decide) (zp_toStr rfl (by first | exact Try.underlying22 | exact Try.underlying47 | exact Try.underlying50 | exact Try.underlying59 | exact Try.underlying61 | exact Try.underlying73 | exact Try.underlying74 | exact Try.underlying78) Try.underlying5 Try.underlying9 rfl) ?_
  (repeat (first | ((with_reducible apply zs_yes); (exact rfl); (exact rfl); (first | assumption | exact rfl)) | ((with_reducible apply zs_move); (exact rfl); (exact rfl))))
  (try ((with_reducible apply zs_yes); exact rfl; exact rfl; (first | assumption | exact rfl))); refine zo_pure rfl rfl (by decide) (zp_toStr rfl (by first | exact Try.underlying22 | exact Try.underlying47 | exact Try.underlying50 | exact Try.underlying59 | exact Try.underlying61 | exact Try.underlying73 | exact Try.underlying74 | exact Try.underlying78) Try.underlying5 Try.underlying9 rfl) ?_
  (try ((with_reducible apply zs_yes); exact rfl; exact rfl; (first | assumption | exact rfl))); refine zo_pure0 rfl rfl (by decide) (zp_str rfl rfl rfl (.inl ⟨rfl, rfl⟩)) ?_
  (repeat (first | ((with_reducible apply zs_yes); (exact rfl); (exact rfl); (first | assumption | exact rfl)) | ((with_reducible apply zs_move); (exact rfl); (exact rfl))))
  (try ((with_reducible apply zs_yes); exact rfl; exact rfl; (first | assumption | exact rfl))); refine zo_pure rfl rfl (by decide) (zp_toStr rfl (by first | exact Try.underlying22 | exact Try.underlying47 | exact Try.underlying50 | exact Try.underlying59 | exact Try.underlying61 | exact Try.underlying73 | exact Try.underlying74 | exact Try.underlying78) Try.underlying5 Try.underlying9 rfl) ?_
  (repeat (first | ((with_reducible apply zs_yes); (exact rfl); (exact rfl); (first | assumption | exact rfl)) | ((with_reducible apply zs_move); (exact rfl); (exact rfl))))
  (try ((with_reducible apply zs_yes); exact rfl; exact rfl; (first | assumption | exact rfl))); refine zo_pure rfl rfl (by decide) (zp_toStr rfl (by first | exact Try.underlying22 | exact Try.underlying47 | exact Try.underlying50 | exact Try.underlying59 | exact Try.underlying61 | exact Try.underlying73 | exact Try.underlying74 | exact Try.underlying78) Try.underlying5 Try.underlying9 rfl) ?_
  (try ((with_reducible apply zs_yes); exact rfl; exact rfl; (first | assumption | exact rfl))); refine zo_pure0 rfl rfl (by decide) (zp_str rfl rfl rfl (.inl ⟨rfl, rfl⟩)) ?_
  (try ((with_reducible apply zs_yes); exact rfl; exact rfl; (first | assumption | exact rfl))); refine zo_pure0 rfl rfl (by decide) (zp_beq (r := true) rfl rfl rfl Try.underlying4 (.inl ⟨rfl, ?_⟩)) ?_
  · have hi := padded_inj b c M hMb hMc hM6
    by_cases hbc : b = c
    · subst hbc; simp
    · have hne : ¬ padded b M = padded c M := fun e => hbc (hi.1 e)
      have q1 : (b == c) = false := by simpa using hbc
      have q2 : (padded b M == padded c M) = false := by simpa using hne
      simp [q1, q2]
  (repeat (first | ((with_reducible apply zs_yes); (exact rfl); (exact rfl); (first | assumption | exact rfl)) | ((with_reducible apply zs_move); (exact rfl); (exact rfl)) | ((with_reducible apply zs_not); (exact rfl); (exact rfl)) | ((with_reducible apply zs_pick_t); (exact rfl); (exact rfl); (first | assumption | exact rfl); (exact rfl))))
  (try ((with_reducible apply zs_yes); exact rfl; exact rfl; (first | assumption | exact rfl))); refine zo_callU put_snd Try.func19 (by kernel_rfl) rfl rfl rfl rfl (by decide) rfl rfl (by first | exact Ups.nilrow 1 (Ups.nilrow 1 (Ups.nilrow 1 (Ups.refl _))) | exact Ups.nilrow 1 (Ups.nilrow 1 (Ups.refl _)) | exact Ups.same (Ups.nilrow 1 (Ups.nilrow 1 (Ups.refl _))) | exact Ups.nilrow 1 (Ups.same (Ups.nilrow 1 (Ups.refl _))) | exact Ups.nilrow 1 (Ups.refl _) | exact Ups.same (Ups.nilrow 1 (Ups.refl _)) | exact Ups.same (Ups.same (Ups.nilrow 1 (Ups.refl _))) | exact Ups.refl _) ?_
  refine ⟨_, _, rfl, hn0, hn1, fun t7 ht7 ht70 => ?_⟩
  (try ((with_reducible apply zs_yes); exact rfl; exact rfl; (first | assumption | exact rfl))); refine zo_forget st (fun _ _ e => e) (fun q e => by simp [e]) ?_
  (try ((with_reducible apply zs_yes); exact rfl; exact rfl; (first | assumption | exact rfl))); refine zo_callU get_snd Try.func20 (by kernel_rfl) rfl rfl rfl rfl (by decide) rfl rfl (by first | exact Ups.nilrow 1 (Ups.nilrow 1 (Ups.nilrow 1 (Ups.refl _))) | exact Ups.nilrow 1 (Ups.nilrow 1 (Ups.refl _)) | exact Ups.same (Ups.nilrow 1 (Ups.nilrow 1 (Ups.refl _))) | exact Ups.nilrow 1 (Ups.same (Ups.nilrow 1 (Ups.refl _))) | exact Ups.nilrow 1 (Ups.refl _) | exact Ups.same (Ups.nilrow 1 (Ups.refl _)) | exact Ups.same (Ups.same (Ups.nilrow 1 (Ups.refl _))) | exact Ups.refl _) ?_
  refine ⟨_, _, rfl, by omega, ?_⟩
  have g5 : decide (get (putB n (k : Nat)) = n % 256 ^ k) = true := decide_eq_true (by
    rw [get_short _ (by omega)]
    unfold putB
    rw [if_pos (by omega), num_put _ _ hn0, Int.toNat_natCast])
  (repeat (first | ((with_reducible apply zs_yes); (exact rfl); (exact rfl); (first | assumption | exact rfl)) | ((with_reducible apply zs_move); (exact rfl); (exact rfl)) | ((with_reducible apply zs_eql); (exact rfl); (exact rfl); (exact rfl)) | ((with_reducible apply zs_pick_t); (exact rfl); (exact rfl); (first | assumption | exact rfl); (exact rfl))))
  (try ((with_reducible apply zs_yes); exact rfl; exact rfl; (first | assumption | exact rfl))); refine zo_callU put_snd Try.func19 (by kernel_rfl) rfl rfl rfl rfl (by decide) rfl rfl (by first | exact Ups.nilrow 1 (Ups.nilrow 1 (Ups.nilrow 1 (Ups.refl _))) | exact Ups.nilrow 1 (Ups.nilrow 1 (Ups.refl _)) | exact Ups.same (Ups.nilrow 1 (Ups.nilrow 1 (Ups.refl _))) | exact Ups.nilrow 1 (Ups.same (Ups.nilrow 1 (Ups.refl _))) | exact Ups.nilrow 1 (Ups.refl _) | exact Ups.same (Ups.nilrow 1 (Ups.refl _)) | exact Ups.same (Ups.same (Ups.nilrow 1 (Ups.refl _))) | exact Ups.refl _) ?_
  refine ⟨_, _, rfl, hn0, hn1, fun t8 ht8 ht80 => ?_⟩
  (try ((with_reducible apply zs_yes); exact rfl; exact rfl; (first | assumption | exact rfl))); refine zo_forget st (fun _ _ e => e) (fun q e => by simp [e]) ?_
  (repeat (first | ((with_reducible apply zs_yes); (exact rfl); (exact rfl); (first | assumption | exact rfl)) | ((with_reducible apply zs_move); (exact rfl); (exact rfl)) | ((with_reducible apply zs_eql); (exact rfl); (exact rfl); (exact rfl)) | ((with_reducible apply zs_pick_t); (exact rfl); (exact rfl); (first | assumption | exact rfl); (exact rfl)) | ((with_reducible apply zs_lenB); (exact rfl); (exact rfl); (exact (by first | exact Try.underlying22 | exact Try.underlying47 | exact Try.underlying50 | exact Try.underlying59 | exact Try.underlying61 | exact Try.underlying73 | exact Try.underlying74 | exact Try.underlying78)))))
  have g6 : decide (((putB n (k : Nat)).length : Int) = (k : Nat)) = true := decide_eq_true (by omega)
  (repeat (first | ((with_reducible apply zs_yes); (exact rfl); (exact rfl); (first | assumption | exact rfl))))
  (try ((with_reducible apply zs_yes); exact rfl; exact rfl; (first | assumption | exact rfl))); refine zo_callU awake_snd Try.func15 (by kernel_rfl) rfl rfl rfl rfl (by decide) rfl rfl (by first | exact Ups.nilrow 1 (Ups.nilrow 1 (Ups.nilrow 1 (Ups.refl _))) | exact Ups.nilrow 1 (Ups.nilrow 1 (Ups.refl _)) | exact Ups.same (Ups.nilrow 1 (Ups.nilrow 1 (Ups.refl _))) | exact Ups.nilrow 1 (Ups.same (Ups.nilrow 1 (Ups.refl _))) | exact Ups.nilrow 1 (Ups.refl _) | exact Ups.same (Ups.nilrow 1 (Ups.refl _)) | exact Ups.same (Ups.same (Ups.nilrow 1 (Ups.refl _))) | exact Ups.refl _) ?_
  refine ⟨rfl, ?_⟩
  (repeat (first | ((with_reducible apply zo_end)) | ((with_reducible apply zs_assign); (exact rfl); (exact rfl)) | ((with_reducible apply zs_pick_t); (exact rfl); (exact rfl); (first | assumption | exact rfl); (exact rfl))))
  refine zr_retZ rfl (resD_tmp rfl (resD_nil _ _ _)) ?_
  exact hK
end Go.Proofs.ZtLe
