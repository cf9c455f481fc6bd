/- A part of the proof of NodeMsgs: walks of the functions that it reaches. No condition. -/
import Derived.Test.YtocpidlgcakldaaZtLeC
import Derived.Test.YtocpidlgcakldaaZmAuto
namespace Go.Proofs.ZtLe
open Go.RowKit Go.Proofs Go.Proofs.Zm
set_option linter.unusedVariables false
set_option linter.unusedSimpArgs false
set_option maxHeartbeats 20000000
set_option maxRecDepth 100000
attribute [local irreducible] ZWp ZOps ZPure ZPure0 ZVal ZOp SoundF

/-! ### dumbwaiterref1.Same -/
def sameSpec : ZSpec := fun args st K => ∃ (l m : List UInt8) (tk tm : Nat), args = [.row (bytesD l) 1 tk, .row (bytesD m) 1 tm] ∧ K (.v (.bool (l == m))) st
theorem same_snd : SoundF Try.prog 19 sameSpec := by
  refine sound_of Try.func19 rfl Try.results19 ?_
  rintro w0 args st K ⟨l, m, tk, tm, rfl, hK⟩
  rw [Try.ntmps19]; refine ⟨by simp, ?_⟩
  (repeat (first | ((with_reducible apply zr_seq)) | ((with_reducible apply zr_region); (try simp only [List.append_eq, List.cons_append, List.nil_append])) | ((with_reducible apply zo_end)) | ((with_reducible apply zs_move); (exact rfl); (exact rfl)) | ((with_reducible apply zs_assign); (exact rfl); (exact rfl))))
  (try ((with_reducible apply zs_yes); exact rfl; exact rfl; (first | assumption | exact rfl))); refine zo_pure rfl rfl (by decide) (zp_toStr rfl zq34 Try.underlying5 Try.underlying9 rfl) ?_
  (repeat (first | ((with_reducible apply zs_move); (exact rfl); (exact rfl))))
  (try ((with_reducible apply zs_yes); exact rfl; exact rfl; (first | assumption | exact rfl))); refine zo_pure rfl rfl (by decide) (zp_toStr rfl zq34 Try.underlying5 Try.underlying9 rfl) ?_
  (try ((with_reducible apply zs_yes); exact rfl; exact rfl; (first | assumption | exact rfl))); refine zo_pure0 rfl rfl (by decide) (zp_str rfl rfl rfl (.inl ⟨rfl, rfl⟩)) ?_
  (repeat (first | ((with_reducible apply zo_end)) | ((with_reducible apply zs_assign); (exact rfl); (exact rfl))))
  refine zr_retZ rfl (resD_tmp rfl (resD_nil _ _ _)) ?_
  simpa [resOf] using hK

/-! ### dumbwaiterref1.Put -/
theorem shr_pow (n : Int) (i : Nat) (hi : i < 8) : n.fdiv (2 ^ min (Int.toNat (8 * (i : Nat))) IntKind.u64.bits) = n / 256 ^ i := by
  have : min (Int.toNat (8 * (i : Nat))) IntKind.u64.bits = 8 * i := by
    have h1 : (8 * (i : Int)).toNat = 8 * i := by omega
    have h2 : IntKind.u64.bits = 64 := rfl
    omega
  rw [this, Int.fdiv_eq_ediv_of_nonneg _ (Int.pow_nonneg (by decide)), Int.pow_mul]
  rfl
theorem rput_snd : SoundF Try.prog 56 putSpec := by
  refine sound_of Try.func56 rfl Try.results56 ?_
  rintro w0 args st K ⟨n, k, rfl, h0, h1, hK⟩
  rw [Try.ntmps56]; refine ⟨by simp, ?_⟩
  unfold putB at hK
  (repeat (first | ((with_reducible apply zr_seq)) | ((with_reducible apply zr_region); (try simp only [List.append_eq, List.cons_append, List.nil_append])) | ((with_reducible apply zo_end)) | ((with_reducible apply zs_move); (exact rfl); (exact rfl)) | ((with_reducible apply zs_assign); (exact rfl); (exact rfl)) | ((with_reducible apply zs_lss); (exact rfl); (exact rfl); (exact rfl))))
  by_cases hk : k < 0
  · have g1 : decide (k < 0) = true := decide_eq_true hk
    (repeat (first | ((with_reducible apply zr_seq)) | ((with_reducible apply zr_region); (try simp only [List.append_eq, List.cons_append, List.nil_append])) | ((with_reducible apply zo_end)) | ((with_reducible apply zs_noU); (exact rfl); (exact rfl); (first | assumption | exact rfl | (simp only [Bool.not_false, Bool.not_true]; assumption)); (exact rfl)) | ((with_reducible apply zs_assign); (exact rfl); (exact rfl)) | ((with_reducible apply zs_pick_t); (exact rfl); (exact rfl); (first | assumption | exact rfl); (exact rfl)) | ((with_reducible apply zr_cond_t); (exact rfl); (first | assumption | exact rfl))))
    refine zr_nil 4 1 rfl fun t ht ht0 => ?_
    refine zr_retZ rfl (resD_tmp rfl (resD_nil _ _ _)) ?_
    have := hK t ht ht0
    rw [if_neg (by omega)] at this
    exact this
  · have g1 : decide (k < 0) = false := decide_eq_false hk
    (repeat (first | ((with_reducible apply zo_end)) | ((with_reducible apply zs_yes); (exact rfl); (exact rfl); (first | assumption | exact rfl)) | ((with_reducible apply zs_move); (exact rfl); (exact rfl)) | ((with_reducible apply zs_gtr); (exact rfl); (exact rfl); (exact rfl)) | ((with_reducible apply zs_pick_f); (exact rfl); (exact rfl); (first | assumption | exact rfl); (exact rfl))))
    by_cases hk8 : 8 < k
    · have g3 : decide (8 < k) = true := decide_eq_true hk8
      (repeat (first | ((with_reducible apply zr_seq)) | ((with_reducible apply zr_region); (try simp only [List.append_eq, List.cons_append, List.nil_append])) | ((with_reducible apply zo_end)) | ((with_reducible apply zs_assign); (exact rfl); (exact rfl)) | ((with_reducible apply zr_cond_t); (exact rfl); (first | assumption | exact rfl))))
      refine zr_nil 4 1 rfl fun t ht ht0 => ?_
      refine zr_retZ rfl (resD_tmp rfl (resD_nil _ _ _)) ?_
      have := hK t ht ht0
      rw [if_neg (by omega)] at this
      exact this
    · have g3 : decide (8 < k) = false := decide_eq_false hk8
      (repeat (first | ((with_reducible apply zr_seq)) | ((with_reducible apply zr_region); (try simp only [List.append_eq, List.cons_append, List.nil_append])) | ((with_reducible apply zo_end)) | ((with_reducible apply zs_assign); (exact rfl); (exact rfl)) | ((with_reducible apply zr_cond_f); (exact rfl); (first | assumption | exact rfl)) | ((with_reducible apply zr_block)) | ((with_reducible apply zr_skip'))))
      refine zr_nil 5 1 rfl fun t ht ht0 => ?_
      refine zr_loopE (fun m env s => ∃ (i : Nat) (t' : Nat), m + i = k.toNat ∧ env = [(0, .v (.int .u64 n)), (1, .v (.int .i64 k)), (5, .row (bytesD (put n i)) 1 t'), (6, .v (.int .i64 (i : Nat)))] ∧ s = st.setT t' true ∧ st.T t' = false ∧ t' ≠ 0) k.toNat [(0, .v (.int .u64 n)), (1, .v (.int .i64 k)), (5, .row (bytesD (put n 0)) 1 t), (6, .v (.int .i64 (0 : Nat)))] (sub_cons rfl (sub_cons rfl (sub_cons (by simp [zlook, put]) zq19))) ⟨0, t, rfl, rfl, rfl, ht, ht0⟩ ?_
      rintro m env s ⟨i, t', hm, rfl, rfl, ht', ht0'⟩
      (repeat (first | ((with_reducible apply zr_seq)) | ((with_reducible apply zr_region); (try simp only [List.append_eq, List.cons_append, List.nil_append])) | ((with_reducible apply zo_end)) | ((with_reducible apply zs_move); (exact rfl); (exact rfl)) | ((with_reducible apply zs_lss); (exact rfl); (exact rfl); (exact rfl))))
      by_cases hlt : (i : Int) < k
      · have g4 : decide ((i : Int) < k) = true := decide_eq_true hlt
        (repeat (first | ((with_reducible apply zr_seq)) | ((with_reducible apply zr_region); (try simp only [List.append_eq, List.cons_append, List.nil_append])) | ((with_reducible apply zs_move); (exact rfl); (exact rfl)) | ((with_reducible apply zr_cond_t); (exact rfl); (first | assumption | exact rfl)) | ((with_reducible apply zr_block)) | ((with_reducible apply zr_skip'))))
        (try ((with_reducible apply zs_yes); exact rfl; exact rfl; (first | assumption | exact rfl))); refine zo_pure0 rfl rfl (by decide) (zp_mul rfl rfl rfl (wrap_in64 (by omega) (by omega))) ?_
        (repeat (first | ((with_reducible apply zs_conv); (exact rfl); (exact rfl); (exact un_int rfl); (exact un_int rfl); (first | first | (with_reducible assumption) | exact wrap_in64 (by omega) (by omega) | exact wrap_inU64 (by omega) (by omega)))))
        (try ((with_reducible apply zs_yes); exact rfl; exact rfl; (first | assumption | exact rfl))); refine zo_pure0 rfl rfl (by decide) (zp_shr rfl rfl rfl (by omega) (shr_pow n i (by omega))) ?_
        (try ((with_reducible apply zs_yes); exact rfl; exact rfl; (first | assumption | exact rfl))); refine zo_pure0 rfl rfl (by decide) (zp_conv rfl rfl (by exact un_int rfl) (by exact un_int rfl) (wrap_u8 _)) ?_
        (try ((with_reducible apply zs_yes); exact rfl; exact rfl; (first | assumption | exact rfl))); refine zo_val rfl rfl (by decide) (zv_lit (xs := [.tmp 24]) rfl rfl el5 zq34 rfl zq30 (by decide) ?_)
        (try ((with_reducible apply zs_yes); exact rfl; exact rfl; (first | assumption | exact rfl))); refine zo_val rfl rfl (by decide) (zv_append rfl el5 zq34 rfl (by simp) rfl (by simp [put_length]; omega) fun t2 h2 h20 => ?_)
        rw [St.setT_back ht']
        (repeat (first | ((with_reducible apply zr_region); (try simp only [List.append_eq, List.cons_append, List.nil_append])) | ((with_reducible apply zo_end)) | ((with_reducible apply zo_endB)) | ((with_reducible apply zs_move); (exact rfl); (exact rfl)) | ((with_reducible apply zs_assign); (exact rfl); (exact rfl)) | ((with_reducible apply zs_add); (exact rfl); (exact rfl); (exact rfl); (first | (with_reducible assumption) | exact wrap_in64 (by omega) (by omega)))))
        have ht2 : st.T t2 = false := by
          by_cases h : t2 = t'
          · simp [h] at h2
          · simpa [h] using h2
        refine ⟨m - 1, [(0, .v (.int .u64 n)), (1, .v (.int .i64 k)), (5, .row (bytesD (put n (i + 1))) 1 t2), (6, .v (.int .i64 ((i + 1) : Nat)))], by omega, ⟨i + 1, t2, by omega, rfl, rfl, ht2, h20⟩, sub_cons rfl (sub_cons rfl (sub_cons ?_ zq19))⟩
        simp [zlook, cellsD, byte1, put]
      · have g4 : decide ((i : Int) < k) = false := decide_eq_false hlt
        (repeat (first | ((with_reducible apply zr_seq)) | ((with_reducible apply zr_region); (try simp only [List.append_eq, List.cons_append, List.nil_append])) | ((with_reducible apply zo_end)) | ((with_reducible apply zs_move); (exact rfl); (exact rfl)) | ((with_reducible apply zs_assign); (exact rfl); (exact rfl)) | ((with_reducible apply zr_cond_f); (exact rfl); (first | assumption | exact rfl)) | (with_reducible refine zr_exit ?_; simp only [Zthen, Zblock, ↓reduceIte])))
        refine zr_retZ rfl (resD_tmp rfl (resD_nil _ _ _)) ?_
        have hi : i = k.toNat := by omega
        subst hi
        have := hK t' ht' ht0'
        rw [if_pos (by omega)] at this
        exact this

/-! ### dumbwaiterref1.Get -/
theorem num_take_succ (l : List UInt8) (i : Nat) (h : i < l.length) : num (l.take (i + 1)) = num (l.take i) + 256 ^ i * ((l.getD i 0).toNat : Int) := by
  induction l generalizing i with
  | nil => simp at h
  | cons b l ih =>
    cases i with
    | zero => simp [num]
    | succ i =>
      have := ih i (by simpa using h)
      simp only [List.take_succ_cons, num, List.getD_cons_succ] at this ⊢
      rw [this, Int.pow_succ, Int.mul_add, Int.add_assoc, Int.mul_comm (256 ^ i) 256, Int.mul_assoc]
theorem or_high (i : Nat) (hi : i < 8) (a b : Int) (h0 : 0 ≤ a) (h1 : a < 256 ^ i) (hb : 0 ≤ b) (hb1 : b < 256) :
    IntKind.u64.wrap ((BitVec.ofInt IntKind.u64.bits a ||| BitVec.ofInt IntKind.u64.bits (256 ^ i * b)).toNat : Int) = a + 256 ^ i * b := by
  obtain ⟨x, rfl⟩ := Int.eq_ofNat_of_zero_le h0
  obtain ⟨y, rfl⟩ := Int.eq_ofNat_of_zero_le hb
  have hp : ((256 : Int) ^ i) = ((256 ^ i : Nat) : Int) := by rw [Int.natCast_pow]; rfl
  have hle : 256 ^ i ≤ 256 ^ 7 := Nat.pow_le_pow_right (by decide) (by omega)
  have hy : y < 256 := by omega
  have hx : x < 256 ^ i := by rw [hp] at h1; exact Int.ofNat_lt.1 h1
  have hm1 : 256 ^ i * y ≤ 256 ^ i * 255 := Nat.mul_le_mul_left _ (by omega)
  have hm2 : 256 ^ i * 255 ≤ 256 ^ 7 * 255 := Nat.mul_le_mul_right _ hle
  have e7 : (256 : Nat) ^ 7 = 72057594037927936 := by decide
  have e2 : BitVec.ofInt IntKind.u64.bits (256 ^ i * (y : Int)) = BitVec.ofNat 64 (256 ^ i * y) := by
    rw [hp, ← Int.natCast_mul]; exact BitVec.ofInt_natCast _ _
  have e1 : BitVec.ofInt IntKind.u64.bits (x : Int) = BitVec.ofNat 64 x := BitVec.ofInt_natCast _ _
  rw [e1, e2]
  show IntKind.u64.wrap ((BitVec.ofNat 64 x ||| BitVec.ofNat 64 (256 ^ i * y)).toNat : Int) = _
  rw [BitVec.toNat_or, BitVec.toNat_ofNat, BitVec.toNat_ofNat, Nat.mod_eq_of_lt (by omega), Nat.mod_eq_of_lt (by omega)]
  have h256 : (256 : Nat) ^ i = 2 ^ (8 * i) := by rw [Nat.pow_mul]
  have : x ||| 256 ^ i * y = x + 256 ^ i * y := by
    rw [h256] at hx ⊢
    rw [Nat.or_comm, show 2 ^ (8 * i) * y = y <<< (8 * i) by rw [Nat.shiftLeft_eq, Nat.mul_comm], ← Nat.shiftLeft_add_eq_or_of_lt hx, Nat.add_comm]
  rw [this, IntKind.wrap_u64, hp, ← Int.natCast_mul, ← Int.natCast_add]
  omega
theorem shl_pow (b : Int) (i : Nat) (hi : i < 8) (hb : 0 ≤ b) (hb1 : b < 256) : IntKind.u64.wrap (b * 2 ^ min (Int.toNat (8 * (i : Nat))) IntKind.u64.bits) = 256 ^ i * b := by
  have : min (Int.toNat (8 * (i : Nat))) IntKind.u64.bits = 8 * i := by
    have h1 : (8 * (i : Int)).toNat = 8 * i := by omega
    have h2 : IntKind.u64.bits = 64 := rfl
    omega
  rw [this, Int.pow_mul, show (2 : Int) ^ 8 = 256 from rfl, Int.mul_comm]
  have hp : ((256 : Int) ^ i) = ((256 ^ i : Nat) : Int) := by rw [Int.natCast_pow]; rfl
  have hle : 256 ^ i ≤ 256 ^ 7 := Nat.pow_le_pow_right (by decide) (by omega)
  have e7 : (256 : Nat) ^ 7 = 72057594037927936 := by decide
  obtain ⟨y, rfl⟩ := Int.eq_ofNat_of_zero_le hb
  have hm1 : 256 ^ i * y ≤ 256 ^ i * 255 := Nat.mul_le_mul_left _ (by omega)
  have hm2 : 256 ^ i * 255 ≤ 256 ^ 7 * 255 := Nat.mul_le_mul_right _ hle
  rw [hp, ← Int.natCast_mul]
  exact wrap_inU64 (by omega) (by omega)

theorem rget_snd : SoundF Try.prog 81 getSpec := by
  refine sound_of Try.func81 rfl Try.results81 ?_
  rintro w0 args st K ⟨l, tk, rfl, hl, hK⟩
  rw [Try.ntmps81]; refine ⟨by simp, ?_⟩
  have e0 : num (l.take 0) = 0 := by simp [num]
  (repeat (first | ((with_reducible apply zr_seq)) | ((with_reducible apply zr_region); (try simp only [List.append_eq, List.cons_append, List.nil_append])) | ((with_reducible apply zo_end)) | ((with_reducible apply zs_assign); (exact rfl); (exact rfl)) | ((with_reducible apply zr_block))))
  refine zr_loopE (fun m env s => ∃ i : Nat, m + i = 8 ∧ i ≤ l.length ∧ env = [(0, .row (bytesD l) 1 tk), (3, .v (.int .u64 (num (l.take i)))), (4, .v (.int .i64 (i : Nat)))] ∧ s = st) 8 [(0, .row (bytesD l) 1 tk), (3, .v (.int .u64 (num (l.take 0)))), (4, .v (.int .i64 (0 : Nat)))] (sub_cons rfl (sub_cons (by rw [e0]; rfl) zq19)) ⟨0, rfl, by omega, rfl, rfl⟩ ?_
  rintro m env s ⟨i, hm, hi, rfl, rfl⟩
  (repeat (first | ((with_reducible apply zr_seq)) | ((with_reducible apply zr_region); (try simp only [List.append_eq, List.cons_append, List.nil_append])) | ((with_reducible apply zs_move); (exact rfl); (exact rfl)) | ((with_reducible apply zs_lss); (exact rfl); (exact rfl); (exact rfl)) | ((with_reducible apply zs_lenB); (exact rfl); (exact rfl); (exact un_sl rfl))))
  have fin : i = min 8 l.length → num (l.take i) = get l := fun h => by
    unfold get
    subst h
    by_cases h8 : 8 ≤ l.length
    · rw [Nat.min_eq_left h8]
    · rw [Nat.min_eq_right (by omega), List.take_of_length_le (Nat.le_refl _), List.take_of_length_le (by omega)]
  by_cases hlt : i < l.length
  · have g4 : decide ((i : Int) < (l.length : Nat)) = true := decide_eq_true (by omega)
    (repeat (first | ((with_reducible apply zo_end)) | ((with_reducible apply zs_yes); (exact rfl); (exact rfl); (first | assumption | exact rfl)) | ((with_reducible apply zs_move); (exact rfl); (exact rfl)) | ((with_reducible apply zs_lss); (exact rfl); (exact rfl); (exact rfl)) | ((with_reducible apply zs_pick_t); (exact rfl); (exact rfl); (first | assumption | exact rfl); (exact rfl))))
    by_cases h8 : i < 8
    · have g5 : decide ((i : Int) < 8) = true := decide_eq_true (by omega)
      (repeat (first | ((with_reducible apply zr_seq)) | ((with_reducible apply zr_region); (try simp only [List.append_eq, List.cons_append, List.nil_append])) | ((with_reducible apply zs_move); (exact rfl); (exact rfl)) | ((with_reducible apply zr_cond_t); (exact rfl); (first | assumption | exact rfl)) | ((with_reducible apply zr_block)) | ((with_reducible apply zr_skip'))))
      (try ((with_reducible apply zs_yes); exact rfl; exact rfl; (first | assumption | exact rfl))); refine zo_pure0 rfl rfl (by decide) (zp_idxB rfl zq34 sz5 rfl rfl hlt) ?_
      (try ((with_reducible apply zs_yes); exact rfl; exact rfl; (first | assumption | exact rfl))); refine zo_pure rfl rfl (by decide) (zp_load_ref rfl sh5 rfl rfl) ?_
      have hb := (l.getD i 0).toNat_lt
      (repeat (first | ((with_reducible apply zs_move); (exact rfl); (exact rfl)) | ((with_reducible apply zs_conv); (exact rfl); (exact rfl); (exact un_int rfl); (exact un_int rfl); (first | first | (with_reducible assumption) | exact wrap_in64 (by omega) (by omega) | exact wrap_inU64 (by omega) (by omega)))))
      (try ((with_reducible apply zs_yes); exact rfl; exact rfl; (first | assumption | exact rfl))); refine zo_pure0 rfl rfl (by decide) (zp_mul rfl rfl rfl (wrap_in64 (by omega) (by omega))) ?_
      (repeat (first | ((with_reducible apply zs_conv); (exact rfl); (exact rfl); (exact un_int rfl); (exact un_int rfl); (first | first | (with_reducible assumption) | exact wrap_in64 (by omega) (by omega) | exact wrap_inU64 (by omega) (by omega)))))
      (try ((with_reducible apply zs_yes); exact rfl; exact rfl; (first | assumption | exact rfl))); refine zo_pure0 rfl rfl (by decide) (zp_shl rfl rfl rfl (by omega) (shl_pow _ i h8 (by omega) (by omega))) ?_
      have hn := num_lt (l.take i)
      rw [List.length_take_of_le (by omega)] at hn
      (try ((with_reducible apply zs_yes); exact rfl; exact rfl; (first | assumption | exact rfl))); refine zo_pure0 rfl rfl (by decide) (zp_or rfl rfl rfl (or_high i h8 _ _ (num_nonneg _) hn (by omega) (by omega))) ?_
      rw [← num_take_succ l i hlt]
      (repeat (first | ((with_reducible apply zr_region); (try simp only [List.append_eq, List.cons_append, List.nil_append])) | ((with_reducible apply zo_end)) | ((with_reducible apply zo_endB)) | ((with_reducible apply zs_move); (exact rfl); (exact rfl)) | ((with_reducible apply zs_assign); (exact rfl); (exact rfl)) | ((with_reducible apply zs_add); (exact rfl); (exact rfl); (exact rfl); (first | (with_reducible assumption) | exact wrap_in64 (by omega) (by omega)))))
      refine ⟨m - 1, [(0, .row (bytesD l) 1 tk), (3, .v (.int .u64 (num (l.take (i + 1))))), (4, .v (.int .i64 ((i + 1) : Nat)))], by omega, ⟨i + 1, by omega, by omega, rfl, rfl⟩, zq19⟩
    · have g5 : decide ((i : Int) < 8) = false := decide_eq_false (by omega)
      (repeat (first | ((with_reducible apply zr_seq)) | ((with_reducible apply zr_region); (try simp only [List.append_eq, List.cons_append, List.nil_append])) | ((with_reducible apply zo_end)) | ((with_reducible apply zs_move); (exact rfl); (exact rfl)) | ((with_reducible apply zs_assign); (exact rfl); (exact rfl)) | ((with_reducible apply zr_cond_f); (exact rfl); (first | assumption | exact rfl)) | (with_reducible refine zr_exit ?_; simp only [Zthen, Zblock, ↓reduceIte])))
      refine zr_retZ rfl (resD_tmp rfl (resD_nil _ _ _)) ?_
      rw [← fin (by omega)] at hK
      exact hK
  · have g4 : decide ((i : Int) < (l.length : Nat)) = false := decide_eq_false (by omega)
    (repeat (first | ((with_reducible apply zr_seq)) | ((with_reducible apply zr_region); (try simp only [List.append_eq, List.cons_append, List.nil_append])) | ((with_reducible apply zo_end)) | ((with_reducible apply zs_noU); (exact rfl); (exact rfl); (first | assumption | exact rfl | (simp only [Bool.not_false, Bool.not_true]; assumption)); (exact rfl)) | ((with_reducible apply zs_move); (exact rfl); (exact rfl)) | ((with_reducible apply zs_assign); (exact rfl); (exact rfl)) | ((with_reducible apply zs_pick_f); (exact rfl); (exact rfl); (first | assumption | exact rfl); (exact rfl)) | ((with_reducible apply zr_cond_f); (exact rfl); (first | assumption | exact rfl)) | (with_reducible refine zr_exit ?_; simp only [Zthen, Zblock, ↓reduceIte])))
    refine zr_retZ rfl (resD_tmp rfl (resD_nil _ _ _)) ?_
    rw [← fin (by omega)] at hK
    exact hK

/-! ### dumbwaiterref1.Pad -/
theorem rpad_snd : SoundF Try.prog 52 padSpec := by
  refine sound_of Try.func52 rfl Try.results52 ?_
  rintro w0 args st K ⟨l, tk, most, rfl, hl, hK⟩
  rw [Try.ntmps52]; refine ⟨by simp, ?_⟩
  (repeat (first | ((with_reducible apply zr_seq)) | ((with_reducible apply zr_region); (try simp only [List.append_eq, List.cons_append, List.nil_append])) | ((with_reducible apply zo_end)) | ((with_reducible apply zs_move); (exact rfl); (exact rfl)) | ((with_reducible apply zs_assign); (exact rfl); (exact rfl)) | ((with_reducible apply zs_lss); (exact rfl); (exact rfl); (exact rfl))))
  by_cases h1 : most < 0
  · have g1 : decide (most < 0) = true := decide_eq_true h1
    (repeat (first | ((with_reducible apply zr_seq)) | ((with_reducible apply zr_region); (try simp only [List.append_eq, List.cons_append, List.nil_append])) | ((with_reducible apply zo_end)) | ((with_reducible apply zs_noU); (exact rfl); (exact rfl); (first | assumption | exact rfl | (simp only [Bool.not_false, Bool.not_true]; assumption)); (exact rfl)) | ((with_reducible apply zs_move); (exact rfl); (exact rfl)) | ((with_reducible apply zs_assign); (exact rfl); (exact rfl)) | ((with_reducible apply zs_pick_t); (exact rfl); (exact rfl); (first | assumption | exact rfl); (exact rfl)) | ((with_reducible apply zr_cond_t); (exact rfl); (first | assumption | exact rfl))))
    refine zr_nil 4 1 rfl fun t ht ht0 => ?_; refine zr_retZ rfl (resD_tmp rfl (resD_tmp rfl (resD_nil _ _ _))) ?_; have := hK t ht ht0; rw [show padL l most = none from by unfold padL; exact if_neg (by omega)] at this; exact this
  have g1 : decide (most < 0) = false := decide_eq_false h1
  (repeat (first | ((with_reducible apply zs_yes); (exact rfl); (exact rfl); (first | assumption | exact rfl)) | ((with_reducible apply zs_move); (exact rfl); (exact rfl)) | ((with_reducible apply zs_gtr); (exact rfl); (exact rfl); (exact rfl)) | ((with_reducible apply zs_pick_f); (exact rfl); (exact rfl); (first | assumption | exact rfl); (exact rfl))))
  by_cases h2 : 60000 < most
  · have g2 : decide (60000 < most) = true := decide_eq_true h2
    (repeat (first | ((with_reducible apply zr_seq)) | ((with_reducible apply zr_region); (try simp only [List.append_eq, List.cons_append, List.nil_append])) | ((with_reducible apply zo_end)) | ((with_reducible apply zs_noU); (exact rfl); (exact rfl); (first | assumption | exact rfl | (simp only [Bool.not_false, Bool.not_true]; assumption)); (exact rfl)) | ((with_reducible apply zs_assign); (exact rfl); (exact rfl)) | ((with_reducible apply zs_pick_t); (exact rfl); (exact rfl); (first | assumption | exact rfl); (exact rfl)) | ((with_reducible apply zr_cond_t); (exact rfl); (first | assumption | exact rfl))))
    refine zr_nil 4 1 rfl fun t ht ht0 => ?_; refine zr_retZ rfl (resD_tmp rfl (resD_tmp rfl (resD_nil _ _ _))) ?_; have := hK t ht ht0; rw [show padL l most = none from by unfold padL; exact if_neg (by omega)] at this; exact this
  have g2 : decide (60000 < most) = false := decide_eq_false h2
  (repeat (first | ((with_reducible apply zo_end)) | ((with_reducible apply zs_yes); (exact rfl); (exact rfl); (first | assumption | exact rfl)) | ((with_reducible apply zs_move); (exact rfl); (exact rfl)) | ((with_reducible apply zs_gtr); (exact rfl); (exact rfl); (exact rfl)) | ((with_reducible apply zs_pick_f); (exact rfl); (exact rfl); (first | assumption | exact rfl); (exact rfl)) | ((with_reducible apply zs_lenB); (exact rfl); (exact rfl); (exact un_sl rfl))))
  by_cases h3 : most < (l.length : Nat)
  · have g3 : decide (most < (l.length : Nat)) = true := decide_eq_true h3
    (repeat (first | ((with_reducible apply zr_seq)) | ((with_reducible apply zr_region); (try simp only [List.append_eq, List.cons_append, List.nil_append])) | ((with_reducible apply zo_end)) | ((with_reducible apply zs_assign); (exact rfl); (exact rfl)) | ((with_reducible apply zr_cond_t); (exact rfl); (first | assumption | exact rfl))))
    refine zr_nil 4 1 rfl fun t ht ht0 => ?_; refine zr_retZ rfl (resD_tmp rfl (resD_tmp rfl (resD_nil _ _ _))) ?_; have := hK t ht ht0; rw [show padL l most = none from by unfold padL; exact if_neg (by omega)] at this; exact this
  have g3 : decide (most < (l.length : Nat)) = false := decide_eq_false h3
  have hp : padL l most = some (putB l.length 2 ++ l ++ List.replicate (most.toNat - l.length) 0) := by unfold padL; exact if_pos (by omega)
  (repeat (first | ((with_reducible apply zr_seq)) | ((with_reducible apply zr_region); (try simp only [List.append_eq, List.cons_append, List.nil_append])) | ((with_reducible apply zs_move); (exact rfl); (exact rfl)) | ((with_reducible apply zs_conv); (exact rfl); (exact rfl); (exact un_int rfl); (exact un_int rfl); (first | first | (with_reducible assumption) | exact wrap_in64 (by omega) (by omega) | exact wrap_inU64 (by omega) (by omega))) | ((with_reducible apply zs_lenB); (exact rfl); (exact rfl); (exact un_sl rfl)) | ((with_reducible apply zr_cond_f); (exact rfl); (first | assumption | exact rfl)) | ((with_reducible apply zr_skip'))))
  (try ((with_reducible apply zs_yes); exact rfl; exact rfl; (first | assumption | exact rfl))); refine zo_callU rput_snd Try.func56 zq36 rfl rfl rfl rfl (by decide) rfl rfl zq3 ?_
  refine ⟨_, _, rfl, by omega, by omega, fun t ht ht0 => ?_⟩
  (repeat (first | ((with_reducible apply zs_move); (exact rfl); (exact rfl))))
  have hlp : (putB (l.length : Nat) 2).length = 2 := by simp [putB, put_length]
  (try ((with_reducible apply zs_yes); exact rfl; exact rfl; (first | assumption | exact rfl))); refine zo_val rfl rfl (by decide) (zv_append rfl el5 zq34 rfl (by simp) rfl (by simp [hlp]; omega) fun t2 h2 h20 => ?_)
  rw [St.setT_back ht]
  have ht2 : st.T t2 = false := by
    by_cases h : t2 = t
    · simp [h] at h2
    · simpa [h] using h2
  (repeat (first | ((with_reducible apply zr_seq)) | ((with_reducible apply zo_end)) | ((with_reducible apply zs_assign); (exact rfl); (exact rfl)) | ((with_reducible apply zr_block))))
  refine zr_loopE (fun m env s => ∃ (i t : Nat), m + i = most.toNat - l.length ∧ env = [(1, .v (.int .i64 most)), (6, .row (bytesD (putB (l.length : Nat) 2 ++ l ++ List.replicate i 0)) 1 t)] ∧ s = st.setT t true ∧ st.T t = false ∧ t ≠ 0) (most.toNat - l.length) [(1, .v (.int .i64 most)), (6, .row (bytesD (putB (l.length : Nat) 2 ++ l ++ List.replicate 0 0)) 1 t2)] (sub_cons rfl (sub_cons (by simp [zlook]) zq19)) ⟨0, t2, rfl, rfl, rfl, ht2, h20⟩ ?_
  rintro m env s ⟨i, t, hm, rfl, rfl, ht, ht0⟩
  (repeat (first | ((with_reducible apply zr_seq)) | ((with_reducible apply zr_region); (try simp only [List.append_eq, List.cons_append, List.nil_append])) | ((with_reducible apply zo_end)) | ((with_reducible apply zs_move); (exact rfl); (exact rfl)) | ((with_reducible apply zs_lss); (exact rfl); (exact rfl); (exact rfl)) | ((with_reducible apply zs_add); (exact rfl); (exact rfl); (exact rfl); (first | (with_reducible assumption) | exact wrap_in64 (by omega) (by omega))) | ((with_reducible apply zs_lenB); (exact rfl); (exact rfl); (exact un_sl rfl))))
  have hlen : (putB (l.length : Nat) 2 ++ l ++ List.replicate i 0).length = 2 + l.length + i := by simp [hlp]; omega
  by_cases hlt : i < most.toNat - l.length
  · have g4 : decide (((putB (l.length : Nat) 2 ++ l ++ List.replicate i 0).length : Int) < most + 2) = true := decide_eq_true (by omega)
    (repeat (first | ((with_reducible apply zr_region); (try simp only [List.append_eq, List.cons_append, List.nil_append])) | ((with_reducible apply zs_move); (exact rfl); (exact rfl)) | ((with_reducible apply zr_cond_t); (exact rfl); (first | assumption | exact rfl)) | ((with_reducible apply zr_block)) | ((with_reducible apply zr_skip'))))
    (try ((with_reducible apply zs_yes); exact rfl; exact rfl; (first | assumption | exact rfl))); refine zo_val rfl rfl (by decide) (zv_lit (xs := [.const (.int .u8 0)]) rfl rfl el5 zq34 rfl zq30 (by decide) ?_)
    (try ((with_reducible apply zs_yes); exact rfl; exact rfl; (first | assumption | exact rfl))); refine zo_val rfl rfl (by decide) (zv_append rfl el5 zq34 rfl (by simp) rfl (by simp [hlp]; omega) fun t3 h3 h30 => ?_)
    rw [St.setT_back ht]
    (repeat (first | ((with_reducible apply zo_endB)) | ((with_reducible apply zs_assign); (exact rfl); (exact rfl))))
    have ht3 : st.T t3 = false := by
      by_cases h : t3 = t
      · simp [h] at h3
      · simpa [h] using h3
    refine ⟨m - 1, [(1, .v (.int .i64 most)), (6, .row (bytesD (putB (l.length : Nat) 2 ++ l ++ List.replicate (i + 1) 0)) 1 t3)], by omega, ⟨i + 1, t3, by omega, rfl, rfl, ht3, h30⟩, sub_cons rfl (sub_cons ?_ zq19)⟩
    simp [zlook, cellsD, List.replicate_succ', bytesD]
  · have g4 : decide (((putB (l.length : Nat) 2 ++ l ++ List.replicate i 0).length : Int) < most + 2) = false := decide_eq_false (by omega)
    (repeat (first | ((with_reducible apply zr_seq)) | ((with_reducible apply zr_region); (try simp only [List.append_eq, List.cons_append, List.nil_append])) | ((with_reducible apply zo_end)) | ((with_reducible apply zs_move); (exact rfl); (exact rfl)) | ((with_reducible apply zs_assign); (exact rfl); (exact rfl)) | ((with_reducible apply zr_cond_f); (exact rfl); (first | assumption | exact rfl)) | (with_reducible refine zr_exit ?_; simp only [Zthen, Zblock, ↓reduceIte])))
    refine zr_retZ rfl (resD_tmp rfl (resD_tmp rfl (resD_nil _ _ _))) ?_
    have := hK t ht ht0
    rw [hp, show most.toNat - l.length = i by omega] at this
    exact this

/-! ### dumbwaiterref1.Unpad -/
theorem runpad_snd : SoundF Try.prog 53 unpadSpec := by
  refine sound_of Try.func53 rfl Try.results53 ?_
  rintro w0 args st K ⟨l, tk, most, rfl, hl, hK⟩
  rw [Try.ntmps53]; refine ⟨by simp, ?_⟩
  (repeat (first | ((with_reducible apply zr_seq)) | ((with_reducible apply zr_region); (try simp only [List.append_eq, List.cons_append, List.nil_append])) | ((with_reducible apply zo_end)) | ((with_reducible apply zs_move); (exact rfl); (exact rfl)) | ((with_reducible apply zs_assign); (exact rfl); (exact rfl)) | ((with_reducible apply zs_lss); (exact rfl); (exact rfl); (exact rfl))))
  by_cases h1 : most < 0
  · have g1 : decide (most < 0) = true := decide_eq_true h1
    (repeat (first | ((with_reducible apply zr_seq)) | ((with_reducible apply zr_region); (try simp only [List.append_eq, List.cons_append, List.nil_append])) | ((with_reducible apply zo_end)) | ((with_reducible apply zs_noU); (exact rfl); (exact rfl); (first | assumption | exact rfl | (simp only [Bool.not_false, Bool.not_true]; assumption)); (exact rfl)) | ((with_reducible apply zs_move); (exact rfl); (exact rfl)) | ((with_reducible apply zs_assign); (exact rfl); (exact rfl)) | ((with_reducible apply zs_pick_t); (exact rfl); (exact rfl); (first | assumption | exact rfl); (exact rfl)) | ((with_reducible apply zr_cond_t); (exact rfl); (first | assumption | exact rfl))))
    refine zr_nil 4 1 rfl fun t ht ht0 => ?_; refine zr_retZ rfl (resD_tmp rfl (resD_tmp rfl (resD_nil _ _ _))) ?_; have := hK t ht ht0; rw [show unpadL l most = none from by unfold unpadL; exact if_neg (by omega)] at this; exact this
  have g1 : decide (most < 0) = false := decide_eq_false h1
  (repeat (first | ((with_reducible apply zs_yes); (exact rfl); (exact rfl); (first | assumption | exact rfl)) | ((with_reducible apply zs_move); (exact rfl); (exact rfl)) | ((with_reducible apply zs_gtr); (exact rfl); (exact rfl); (exact rfl)) | ((with_reducible apply zs_pick_f); (exact rfl); (exact rfl); (first | assumption | exact rfl); (exact rfl))))
  by_cases h2 : 60000 < most
  · have g2 : decide (60000 < most) = true := decide_eq_true h2
    (repeat (first | ((with_reducible apply zr_seq)) | ((with_reducible apply zr_region); (try simp only [List.append_eq, List.cons_append, List.nil_append])) | ((with_reducible apply zo_end)) | ((with_reducible apply zs_noU); (exact rfl); (exact rfl); (first | assumption | exact rfl | (simp only [Bool.not_false, Bool.not_true]; assumption)); (exact rfl)) | ((with_reducible apply zs_assign); (exact rfl); (exact rfl)) | ((with_reducible apply zs_pick_t); (exact rfl); (exact rfl); (first | assumption | exact rfl); (exact rfl)) | ((with_reducible apply zr_cond_t); (exact rfl); (first | assumption | exact rfl))))
    refine zr_nil 4 1 rfl fun t ht ht0 => ?_; refine zr_retZ rfl (resD_tmp rfl (resD_tmp rfl (resD_nil _ _ _))) ?_; have := hK t ht ht0; rw [show unpadL l most = none from by unfold unpadL; exact if_neg (by omega)] at this; exact this
  have g2 : decide (60000 < most) = false := decide_eq_false h2
  (repeat (first | ((with_reducible apply zo_end)) | ((with_reducible apply zs_yes); (exact rfl); (exact rfl); (first | assumption | exact rfl)) | ((with_reducible apply zs_move); (exact rfl); (exact rfl)) | ((with_reducible apply zs_neq); (exact rfl); (exact rfl); (exact rfl)) | ((with_reducible apply zs_pick_f); (exact rfl); (exact rfl); (first | assumption | exact rfl); (exact rfl)) | ((with_reducible apply zs_add); (exact rfl); (exact rfl); (exact rfl); (first | (with_reducible assumption) | exact wrap_in64 (by omega) (by omega))) | ((with_reducible apply zs_lenB); (exact rfl); (exact rfl); (exact un_sl rfl))))
  by_cases h3 : ((l.length : Nat) : Int) ≠ most + 2
  · have g3 : decide (((l.length : Nat) : Int) ≠ most + 2) = true := decide_eq_true h3
    (repeat (first | ((with_reducible apply zr_seq)) | ((with_reducible apply zr_region); (try simp only [List.append_eq, List.cons_append, List.nil_append])) | ((with_reducible apply zo_end)) | ((with_reducible apply zs_assign); (exact rfl); (exact rfl)) | ((with_reducible apply zr_cond_t); (exact rfl); (first | assumption | exact rfl))))
    refine zr_nil 4 1 rfl fun t ht ht0 => ?_; refine zr_retZ rfl (resD_tmp rfl (resD_tmp rfl (resD_nil _ _ _))) ?_; have := hK t ht ht0; rw [show unpadL l most = none from by unfold unpadL; exact if_neg (by omega)] at this; exact this
  have g3 : decide (((l.length : Nat) : Int) ≠ most + 2) = false := decide_eq_false h3
  have hu : unpadL l most = if get (l.take 2) ≤ most ∧ zero (l.drop (2 + (get (l.take 2)).toNat)) = true then some ((l.take (2 + (get (l.take 2)).toNat)).drop 2) else none := by unfold unpadL; exact if_pos (by omega)
  have hg0 := get_nonneg (l.take 2)
  have hg1 := get2_lt l
  (repeat (first | ((with_reducible apply zr_seq)) | ((with_reducible apply zr_region); (try simp only [List.append_eq, List.cons_append, List.nil_append])) | ((with_reducible apply zs_move); (exact rfl); (exact rfl)) | ((with_reducible apply zr_cond_f); (exact rfl); (first | assumption | exact rfl)) | ((with_reducible apply zr_skip'))))
  (try ((with_reducible apply zs_yes); exact rfl; exact rfl; (first | assumption | exact rfl))); refine zo_pure0 rfl rfl (by decide) (zp_cutB rfl zq34 sz5 rfl (l := 0) (m := 2) rfl ⟨_, rfl⟩ (by omega) (by omega)) ?_
  rw [List.drop_zero]
  (try ((with_reducible apply zs_yes); exact rfl; exact rfl; (first | assumption | exact rfl))); refine zo_callU rget_snd Try.func81 zq36 rfl rfl rfl rfl (by decide) rfl rfl zq3 ?_
  refine ⟨_, _, rfl, by simp; omega, ?_⟩
  (repeat (first | ((with_reducible apply zr_seq)) | ((with_reducible apply zr_region); (try simp only [List.append_eq, List.cons_append, List.nil_append])) | ((with_reducible apply zo_end)) | ((with_reducible apply zs_move); (exact rfl); (exact rfl)) | ((with_reducible apply zs_assign); (exact rfl); (exact rfl)) | ((with_reducible apply zs_gtr); (exact rfl); (exact rfl); (exact rfl)) | ((with_reducible apply zs_conv); (exact rfl); (exact rfl); (exact un_int rfl); (exact un_int rfl); (first | first | (with_reducible assumption) | exact wrap_in64 (by omega) (by omega) | exact wrap_inU64 (by omega) (by omega)))))
  by_cases h4 : most < get (l.take 2)
  · have g4 : decide (most < get (l.take 2)) = true := decide_eq_true h4
    (repeat (first | ((with_reducible apply zr_seq)) | ((with_reducible apply zr_region); (try simp only [List.append_eq, List.cons_append, List.nil_append])) | ((with_reducible apply zo_end)) | ((with_reducible apply zs_assign); (exact rfl); (exact rfl)) | ((with_reducible apply zr_cond_t); (exact rfl); (first | assumption | exact rfl))))
    refine zr_nil 4 1 rfl fun t ht ht0 => ?_
    refine zr_retZ rfl (resD_tmp rfl (resD_tmp rfl (resD_nil _ _ _))) ?_
    have := hK t ht ht0
    rw [hu, if_neg (by omega)] at this
    exact this
  have g4 : decide (most < get (l.take 2)) = false := decide_eq_false h4
  (repeat (first | ((with_reducible apply zr_seq)) | ((with_reducible apply zr_region); (try simp only [List.append_eq, List.cons_append, List.nil_append])) | ((with_reducible apply zo_end)) | ((with_reducible apply zs_move); (exact rfl); (exact rfl)) | ((with_reducible apply zs_assign); (exact rfl); (exact rfl)) | ((with_reducible apply zs_add); (exact rfl); (exact rfl); (exact rfl); (first | (with_reducible assumption) | exact wrap_in64 (by omega) (by omega))) | ((with_reducible apply zr_cond_f); (exact rfl); (first | assumption | exact rfl)) | ((with_reducible apply zr_block)) | ((with_reducible apply zr_skip'))))
  have e5 : (2 : Int) + get (l.take 2) = ((2 + (get (l.take 2)).toNat : Nat) : Int) := by omega
  refine zr_loopE (fun m env s => ∃ i : Nat, m + i = l.length ∧ 2 + (get (l.take 2)).toNat ≤ i ∧ (∀ j, 2 + (get (l.take 2)).toNat ≤ j → j < i → l.getD j 0 = 0) ∧ env = [(0, .row (bytesD l) 1 tk), (6, .v (.int .i64 (get (l.take 2)))), (7, .v (.int .i64 (i : Nat)))] ∧ s = st) (l.length - (2 + (get (l.take 2)).toNat)) [(0, .row (bytesD l) 1 tk), (6, .v (.int .i64 (get (l.take 2)))), (7, .v (.int .i64 ((2 + (get (l.take 2)).toNat) : Nat)))]
    (sub_cons rfl (sub_cons rfl (sub_cons (by rw [← e5]; rfl) zq19))) ⟨_, by omega, Nat.le_refl _, fun j a b => by omega, rfl, rfl⟩ ?_
  rintro m env s ⟨i, hm, hi, hz, rfl, rfl⟩
  (repeat (first | ((with_reducible apply zr_seq)) | ((with_reducible apply zr_region); (try simp only [List.append_eq, List.cons_append, List.nil_append])) | ((with_reducible apply zo_end)) | ((with_reducible apply zs_move); (exact rfl); (exact rfl)) | ((with_reducible apply zs_lss); (exact rfl); (exact rfl); (exact rfl)) | ((with_reducible apply zs_lenB); (exact rfl); (exact rfl); (exact un_sl rfl))))
  by_cases hlt : i < l.length
  · have g5 : decide ((i : Int) < (l.length : Nat)) = true := decide_eq_true (by omega)
    (repeat (first | ((with_reducible apply zr_seq)) | ((with_reducible apply zr_region); (try simp only [List.append_eq, List.cons_append, List.nil_append])) | ((with_reducible apply zs_move); (exact rfl); (exact rfl)) | ((with_reducible apply zr_cond_t); (exact rfl); (first | assumption | exact rfl)) | ((with_reducible apply zr_block)) | ((with_reducible apply zr_skip'))))
    (try ((with_reducible apply zs_yes); exact rfl; exact rfl; (first | assumption | exact rfl))); refine zo_pure0 rfl rfl (by decide) (zp_idxB rfl zq34 sz5 rfl rfl hlt) ?_
    (try ((with_reducible apply zs_yes); exact rfl; exact rfl; (first | assumption | exact rfl))); refine zo_pure rfl rfl (by decide) (zp_load_ref rfl sh5 rfl rfl) ?_
    (repeat (first | ((with_reducible apply zo_end)) | ((with_reducible apply zs_neq); (exact rfl); (exact rfl); (exact rfl))))
    by_cases hb : ((l.getD i 0).toNat : Int) ≠ 0
    · have g6 : decide (((l.getD i 0).toNat : Int) ≠ 0) = true := decide_eq_true hb
      (repeat (first | ((with_reducible apply zr_seq)) | ((with_reducible apply zr_region); (try simp only [List.append_eq, List.cons_append, List.nil_append])) | ((with_reducible apply zo_end)) | ((with_reducible apply zs_assign); (exact rfl); (exact rfl)) | ((with_reducible apply zr_cond_t); (exact rfl); (first | assumption | exact rfl))))
      refine zr_nil 4 1 rfl fun t ht ht0 => ?_
      refine zr_retZ rfl (resD_tmp rfl (resD_tmp rfl (resD_nil _ _ _))) ?_
      have := hK t ht ht0
      rw [hu, zero_not _ (i - (2 + (get (l.take 2)).toNat)) (by simp; omega) (by
        rw [List.getD_eq_getElem?_getD, List.getElem?_drop, Nat.add_sub_cancel' hi, ← List.getD_eq_getElem?_getD]; exact byte_ne hb), if_neg (by simp)] at this
      exact this
    · have g6 : decide (((l.getD i 0).toNat : Int) ≠ 0) = false := decide_eq_false hb
      (repeat (first | ((with_reducible apply zr_region); (try simp only [List.append_eq, List.cons_append, List.nil_append])) | ((with_reducible apply zo_end)) | ((with_reducible apply zs_move); (exact rfl); (exact rfl)) | ((with_reducible apply zs_assign); (exact rfl); (exact rfl)) | ((with_reducible apply zs_add); (exact rfl); (exact rfl); (exact rfl); (first | (with_reducible assumption) | exact wrap_in64 (by omega) (by omega))) | ((with_reducible apply zr_cond_f); (exact rfl); (first | assumption | exact rfl)) | ((with_reducible apply zr_skipB))))
      refine ⟨m - 1, [(0, .row (bytesD l) 1 tk), (6, .v (.int .i64 (get (l.take 2)))), (7, .v (.int .i64 ((i + 1) : Nat)))], by omega, ⟨i + 1, by omega, by omega, fun j h5 h6 => ?_, rfl, rfl⟩, zq19⟩
      by_cases hji : j = i
      · subst hji; exact byte_eq (by omega)
      · exact hz j h5 (by omega)
  · have g5 : decide ((i : Int) < (l.length : Nat)) = false := decide_eq_false (by omega)
    (repeat (first | ((with_reducible apply zr_seq)) | ((with_reducible apply zr_region); (try simp only [List.append_eq, List.cons_append, List.nil_append])) | ((with_reducible apply zr_cond_f); (exact rfl); (first | assumption | exact rfl)) | (with_reducible refine zr_exit ?_; simp only [Zthen, Zblock, ↓reduceIte])))
    have hzz : zero (l.drop (2 + (get (l.take 2)).toNat)) = true := zero_of _ fun j hj => by
      rw [List.getD_eq_getElem?_getD, List.getElem?_drop, ← List.getD_eq_getElem?_getD]
      exact hz _ (by omega) (by simp at hj; omega)
    (try ((with_reducible apply zs_yes); exact rfl; exact rfl; (first | assumption | exact rfl))); refine zo_val rfl rfl (by decide) (zv_buildSlice (xs := []) rfl rfl el5 zq34 rfl (by simp) (by decide) fun t0 ht0 ht00 => ?_)
    (repeat (first | ((with_reducible apply zs_move); (exact rfl); (exact rfl)) | ((with_reducible apply zs_add); (exact rfl); (exact rfl); (exact rfl); (first | (with_reducible assumption) | exact wrap_in64 (by omega) (by omega)))))
    rw [e5]
    (try ((with_reducible apply zs_yes); exact rfl; exact rfl; (first | assumption | exact rfl))); refine zo_pure0 rfl rfl (by decide) (zp_cutB rfl zq34 sz5 rfl (l := 2) (m := 2 + (get (l.take 2)).toNat) ⟨_, rfl⟩ ⟨_, rfl⟩ (by omega) (by omega)) ?_
    (try ((with_reducible apply zs_yes); exact rfl; exact rfl; (first | assumption | exact rfl))); refine zo_val rfl rfl (by decide) (zv_append rfl el5 zq34 rfl (by simp) rfl (by simp; omega) fun t ht ht0' => ?_)
    rw [St.setT_back ht0]
    have ht2 : s.T t = false := by
      by_cases h : t = t0
      · simp [h] at ht
      · simpa [h] using ht
    (repeat (first | ((with_reducible apply zo_end)) | ((with_reducible apply zs_assign); (exact rfl); (exact rfl))))
    refine zr_retZ rfl (resD_tmp rfl (resD_tmp rfl (resD_nil _ _ _))) ?_
    have := hK t ht2 ht0'
    rw [hu, hzz, if_pos ⟨by omega, rfl⟩] at this
    exact this

end Go.Proofs.ZtLe
