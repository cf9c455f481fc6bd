/- A part of the proof of NodeMsgForms: walks of the functions that it reaches. No condition. -/
import Derived.Test.YtocpidlgcakldaaZtTb
import Derived.Test.YtocpidlgcakldaaZmAuto
import Derived.Test.YtocpidlgcakldaaZmP1
namespace Go.Proofs.ZtLe
open Go.RowKit Go.Proofs Go.Proofs.Zm
set_option linter.unusedVariables false
set_option linter.unusedSimpArgs false
set_option maxHeartbeats 20000000
set_option maxRecDepth 100000
attribute [local irreducible] ZWp ZOps ZPure ZPure0 ZVal ZOp SoundF

/-! ### plain -/
/-- The lowest bytes of a number, the least first. -/
def put (n : Int) : Nat → List UInt8
  | 0 => []
  | k + 1 => put n k ++ [UInt8.ofNat (n / 256 ^ k % 256).toNat]
theorem put_length (n : Int) (k : Nat) : (put n k).length = k := by induction k <;> simp_all [put]
def putB (n : Int) (k : Int) : List UInt8 := if 0 ≤ k ∧ k ≤ 8 then put n k.toNat else []
/-- The number of bytes, the least first. -/
def num : List UInt8 → Int
  | [] => 0
  | b :: l => (b.toNat : Int) + 256 * num l
theorem num_nonneg (l : List UInt8) : 0 ≤ num l := by induction l with
  | nil => simp [num]
  | cons b l ih => simp only [num]; omega
theorem num_lt (l : List UInt8) : num l < 256 ^ l.length := by induction l with
  | nil => simp [num]
  | cons b l ih => simp only [num, List.length_cons, Int.pow_succ]; have := b.toNat_lt; omega
def get (l : List UInt8) : Int := num (l.take 8)

/-! ### types -/
theorem el5 : ElemOk Try.prog 5 1 1 [.v (.int .u8 0)] := by
  refine ⟨?_, by decide, by decide⟩
  have h : (Try.prog.info? 5).map (fun i => (i.size, i.bytes, i.zero)) = some (1, 1, some (.int .u8 0)) := by kernel_rfl
  obtain ⟨i, hi, he⟩ := Option.map_eq_some_iff.1 h
  simp only [Prod.mk.injEq] at he
  exact ⟨i, .int .u8 0, hi, he.1, he.2.1, he.2.2, rfl, rfl⟩
theorem sz5 : (Try.prog.info? 5).map (·.size) = some 1 := by kernel_rfl
theorem sh5 : shapeIs Try.prog 5 false 1 := shape_one Try.underlying5 trivial sz5

theorem byte1 (n : Int) : ([[.v (.int .u8 (n % 256))]] : List (List D)) = bytesD [UInt8.ofNat (n % 256).toNat] := by
  simp only [bytesD, List.map_cons, List.map_nil]
  have : ((UInt8.ofNat (n % 256).toNat).toNat : Int) = n % 256 := by simp; omega
  rw [this]
theorem zeros (k : Nat) : List.replicate k ([.v (.int .u8 0)] : List D) = bytesD (List.replicate k 0) := by simp [bytesD]

/-! ### le.Put -/
def putSpec : ZSpec := fun args st K => ∃ (n : Int) (k : Int), args = [.v (.int .u64 n), .v (.int .i64 k)] ∧ 0 ≤ n ∧ n < 18446744073709551616 ∧
  ∀ t, st.T t = false → t ≠ 0 → K (.row (bytesD (putB n k)) 1 t) (st.setT t true)

theorem put_snd : SoundF Try.prog 44 putSpec := by
  refine sound_of Try.func44 rfl Try.results44 ?_
  rintro w0 args st K ⟨n, k, rfl, h0, h1, hK⟩
  rw [Try.ntmps44]; refine ⟨by simp, ?_⟩
  unfold putB at hK
  (repeat (first | ((with_reducible apply zr_seq)) | ((with_reducible apply zr_region); (try simp only [List.append_eq, List.cons_append, List.nil_append])) | ((with_reducible apply zo_end)) | ((with_reducible apply zs_move); (exact rfl); (exact rfl)) | ((with_reducible apply zs_assign); (exact rfl); (exact rfl)) | ((with_reducible apply zs_lss); (exact rfl); (exact rfl); (exact rfl))))
  by_cases hk : k < 0
  · have g1 : decide (k < 0) = true := decide_eq_true hk
    (repeat (first | ((with_reducible apply zr_seq)) | ((with_reducible apply zr_region); (try simp only [List.append_eq, List.cons_append, List.nil_append])) | ((with_reducible apply zo_end)) | ((with_reducible apply zs_noU); (exact rfl); (exact rfl); (first | assumption | exact rfl | (simp only [Bool.not_false, Bool.not_true]; assumption)); (exact rfl)) | ((with_reducible apply zs_assign); (exact rfl); (exact rfl)) | ((with_reducible apply zs_pick_t); (exact rfl); (exact rfl); (first | assumption | exact rfl); (exact rfl)) | ((with_reducible apply zr_cond_t); (exact rfl); (first | assumption | exact rfl))))
    refine zr_nil 4 1 rfl fun t ht ht0 => ?_
    refine zr_retZ rfl (resD_tmp rfl (resD_nil _ _ _)) ?_
    have := hK t ht ht0
    rw [if_neg (by omega)] at this
    exact this
  · have g1 : decide (k < 0) = false := decide_eq_false hk
    (repeat (first | ((with_reducible apply zo_end)) | ((with_reducible apply zs_yes); (exact rfl); (exact rfl); (first | assumption | exact rfl)) | ((with_reducible apply zs_move); (exact rfl); (exact rfl)) | ((with_reducible apply zs_gtr); (exact rfl); (exact rfl); (exact rfl)) | ((with_reducible apply zs_pick_f); (exact rfl); (exact rfl); (first | assumption | exact rfl); (exact rfl))))
    by_cases hk8 : 8 < k
    · have g3 : decide (8 < k) = true := decide_eq_true hk8
      (repeat (first | ((with_reducible apply zr_seq)) | ((with_reducible apply zr_region); (try simp only [List.append_eq, List.cons_append, List.nil_append])) | ((with_reducible apply zo_end)) | ((with_reducible apply zs_assign); (exact rfl); (exact rfl)) | ((with_reducible apply zr_cond_t); (exact rfl); (first | assumption | exact rfl))))
      refine zr_nil 4 1 rfl fun t ht ht0 => ?_
      refine zr_retZ rfl (resD_tmp rfl (resD_nil _ _ _)) ?_
      have := hK t ht ht0
      rw [if_neg (by omega)] at this
      exact this
    · have g3 : decide (8 < k) = false := decide_eq_false hk8
      (repeat (first | ((with_reducible apply zr_seq)) | ((with_reducible apply zr_region); (try simp only [List.append_eq, List.cons_append, List.nil_append])) | ((with_reducible apply zo_end)) | ((with_reducible apply zs_move); (exact rfl); (exact rfl)) | ((with_reducible apply zs_assign); (exact rfl); (exact rfl)) | ((with_reducible apply zr_cond_f); (exact rfl); (first | assumption | exact rfl)) | ((with_reducible apply zr_block)) | ((with_reducible apply zr_skip'))))
      refine zr_nil 5 1 rfl fun t ht ht0 => ?_
      refine zr_loopE (fun m env s => ∃ (i : Nat) (t' : Nat), m + i = k.toNat ∧ env = [(0, .v (.int .u64 (n / 256 ^ i))), (5, .row (bytesD (put n i)) 1 t'), (12, .v (.int .i64 k)), (13, .v (.int .i64 (i : Nat)))] ∧ s = st.setT t' true ∧ st.T t' = false ∧ t' ≠ 0) k.toNat [(0, .v (.int .u64 (n / 256 ^ 0))), (5, .row (bytesD (put n 0)) 1 t), (12, .v (.int .i64 k)), (13, .v (.int .i64 (0 : Nat)))] zq17 ⟨0, t, rfl, rfl, rfl, ht, ht0⟩ ?_
      rintro m env s ⟨i, t', hm, rfl, rfl, ht', ht0'⟩
      (repeat (first | ((with_reducible apply zr_seq)) | ((with_reducible apply zr_region); (try simp only [List.append_eq, List.cons_append, List.nil_append])) | ((with_reducible apply zo_end)) | ((with_reducible apply zs_lss); (exact rfl); (exact rfl); (exact rfl))))
      by_cases hlt : (i : Int) < k
      · have g4 : decide ((i : Int) < k) = true := decide_eq_true hlt
        (repeat (first | ((with_reducible apply zr_seq)) | ((with_reducible apply zr_region); (try simp only [List.append_eq, List.cons_append, List.nil_append])) | ((with_reducible apply zs_move); (exact rfl); (exact rfl)) | ((with_reducible apply zr_cond_t); (exact rfl); (first | assumption | exact rfl)) | ((with_reducible apply zr_block)) | ((with_reducible apply zr_skip'))))
        (try ((with_reducible apply zs_yes); exact rfl; exact rfl; (first | assumption | exact rfl))); refine zo_pure0 rfl rfl (by decide) (zp_conv rfl rfl (by exact un_int rfl) (by exact un_int rfl) (wrap_u8 _)) ?_
        (try ((with_reducible apply zs_yes); exact rfl; exact rfl; (first | assumption | exact rfl))); refine zo_val rfl rfl (by decide) (zv_lit (xs := [.tmp 17]) rfl rfl el5 zq26 rfl (by simp [cellsD, oneD, Value.oneCell']) (by decide) ?_)
        (try ((with_reducible apply zs_yes); exact rfl; exact rfl; (first | assumption | exact rfl))); refine zo_val rfl rfl (by decide) (zv_append rfl el5 zq26 rfl (by simp) rfl (by simp [put_length]; omega) fun t2 h2 h20 => ?_)
        rw [St.setT_back ht']
        (repeat (first | ((with_reducible apply zr_region); (try simp only [List.append_eq, List.cons_append, List.nil_append])) | ((with_reducible apply zo_end)) | ((with_reducible apply zs_move); (exact rfl); (exact rfl)) | ((with_reducible apply zs_assign); (exact rfl); (exact rfl))))
        have e1 : (n / 256 ^ i).fdiv (2 ^ min (Int.toNat 8) IntKind.u64.bits) = n / 256 ^ (i + 1) := by
          have : min (Int.toNat 8) IntKind.u64.bits = 8 := by decide
          rw [this, Int.fdiv_eq_ediv_of_nonneg _ (by decide), show (2 : Int) ^ 8 = 256 from rfl, Int.pow_succ, Int.ediv_ediv_of_nonneg (Int.pow_nonneg (by decide))]
        (try ((with_reducible apply zs_yes); exact rfl; exact rfl; (first | assumption | exact rfl))); refine zo_pure0 rfl rfl (by decide) (zp_shr rfl rfl rfl (by omega) e1) ?_
        (repeat (first | ((with_reducible apply zr_region); (try simp only [List.append_eq, List.cons_append, List.nil_append])) | ((with_reducible apply zo_end)) | ((with_reducible apply zo_endB)) | ((with_reducible apply zs_move); (exact rfl); (exact rfl)) | ((with_reducible apply zs_assign); (exact rfl); (exact rfl)) | ((with_reducible apply zs_add); (exact rfl); (exact rfl); (exact rfl); (first | (with_reducible assumption) | exact wrap_in64 (by omega) (by omega)))))
        have ht2 : st.T t2 = false := by
          by_cases h : t2 = t'
          · simp [h] at h2
          · simpa [h] using h2
        refine ⟨m - 1, [(0, .v (.int .u64 (n / 256 ^ (i + 1)))), (5, .row (bytesD (put n (i + 1))) 1 t2), (12, .v (.int .i64 k)), (13, .v (.int .i64 ((i + 1) : Nat)))], by omega, ⟨i + 1, t2, by omega, rfl, rfl, ht2, h20⟩, sub_cons rfl (sub_cons ?_ zq17)⟩
        simp [zlook, cellsD, byte1, put]
      · have g4 : decide ((i : Int) < k) = false := decide_eq_false hlt
        (repeat (first | ((with_reducible apply zr_seq)) | ((with_reducible apply zr_region); (try simp only [List.append_eq, List.cons_append, List.nil_append])) | ((with_reducible apply zo_end)) | ((with_reducible apply zs_move); (exact rfl); (exact rfl)) | ((with_reducible apply zs_assign); (exact rfl); (exact rfl)) | ((with_reducible apply zr_cond_f); (exact rfl); (first | assumption | exact rfl)) | (with_reducible refine zr_exit ?_; simp only [Zthen, Zblock, ↓reduceIte])))
        refine zr_retZ rfl (resD_tmp rfl (resD_nil _ _ _)) ?_
        have hi : i = k.toNat := by omega
        subst hi
        have := hK t' ht' ht0'
        rw [if_pos (by omega)] at this
        exact this

/-! ### le.Get -/
theorem num_drop (l : List UInt8) (i : Nat) (h : i < l.length) : num (l.drop i) = ((l.getD i 0).toNat : Int) + 256 * num (l.drop (i + 1)) := by
  rw [List.drop_eq_getElem_cons h, num, getD_in h]
theorem or_shift (a b : Int) (h0 : 0 ≤ a) (h1 : a < 72057594037927936) (hb : 0 ≤ b) (hb1 : b < 256) : IntKind.u64.wrap ((BitVec.ofInt IntKind.u64.bits (a * 256) ||| BitVec.ofInt IntKind.u64.bits b).toNat : Int) = b + 256 * a := by
  obtain ⟨x, rfl⟩ := Int.eq_ofNat_of_zero_le h0
  obtain ⟨y, rfl⟩ := Int.eq_ofNat_of_zero_le hb
  have e1 : BitVec.ofInt IntKind.u64.bits ((x : Int) * 256) = BitVec.ofNat 64 (x * 256) := by
    rw [show (x : Int) * 256 = ((x * 256 : Nat) : Int) by omega]; exact BitVec.ofInt_natCast _ _
  have e2 : BitVec.ofInt IntKind.u64.bits (y : Int) = BitVec.ofNat 64 y := BitVec.ofInt_natCast _ _
  rw [e1, e2]
  show IntKind.u64.wrap ((BitVec.ofNat 64 (x * 256) ||| BitVec.ofNat 64 y).toNat : Int) = _
  rw [BitVec.toNat_or, BitVec.toNat_ofNat, BitVec.toNat_ofNat, Nat.mod_eq_of_lt (by omega), Nat.mod_eq_of_lt (by omega)]
  have : x * 256 ||| y = x * 256 + y := by
    rw [show x * 256 = x <<< 8 by rw [Nat.shiftLeft_eq]]
    rw [← Nat.shiftLeft_add_eq_or_of_lt (by omega)]
  rw [this, IntKind.wrap_u64]
  omega

def getSpec : ZSpec := fun args st K => ∃ (l : List UInt8) (tk : Nat), args = [.row (bytesD l) 1 tk] ∧ l.length ≤ 140737488355328 ∧ K (.v (.int .u64 (get l))) st

theorem get_snd : SoundF Try.prog 59 getSpec := by
  refine sound_of Try.func59 rfl Try.results59 ?_
  rintro w0 args st K ⟨l, tk, rfl, hl, hK⟩
  rw [Try.ntmps59]; refine ⟨by simp, ?_⟩
  (repeat (first | ((with_reducible apply zr_seq)) | ((with_reducible apply zr_region); (try simp only [List.append_eq, List.cons_append, List.nil_append])) | ((with_reducible apply zo_end)) | ((with_reducible apply zs_move); (exact rfl); (exact rfl)) | ((with_reducible apply zs_assign); (exact rfl); (exact rfl)) | ((with_reducible apply zs_lenB); (exact rfl); (exact rfl); (exact un_sl rfl))))
  have hmin : min ((l.length : Nat) : Int) 8 = ((l.take 8).length : Nat) := by simp; omega
  (try ((with_reducible apply zs_yes); exact rfl; exact rfl; (first | assumption | exact rfl))); refine zo_pure0 rfl rfl (by decide) (zp_min rfl rfl rfl hmin) ?_
  have hl8 : (l.take 8).length ≤ 8 := by simp; omega
  have e0 : num ((l.take 8).drop (l.take 8).length) = 0 := by rw [List.drop_length]; rfl
  (repeat (first | ((with_reducible apply zo_end)) | ((with_reducible apply zs_assign); (exact rfl); (exact rfl)) | ((with_reducible apply zs_sub); (exact rfl); (exact rfl); (exact rfl); (first | (with_reducible assumption) | exact wrap_in64 (by omega) (by omega))) | ((with_reducible apply zr_block))))
  refine zr_loopE (fun m env s => ∃ i : Nat, i = m ∧ i ≤ (l.take 8).length ∧ env = [(0, .row (bytesD l) 1 tk), (3, .v (.int .u64 (num ((l.take 8).drop i)))), (4, .v (.int .i64 ((i : Nat) - 1 : Int)))] ∧ s = st) (l.take 8).length [(0, .row (bytesD l) 1 tk), (3, .v (.int .u64 (num ((l.take 8).drop ((l.take 8).length))))), (4, .v (.int .i64 ((((l.take 8).length) : Nat) - 1 : Int)))] (sub_cons rfl (sub_cons (by rw [e0]; rfl) zq17)) ⟨_, rfl, Nat.le_refl _, rfl, rfl⟩ ?_
  rintro m env s ⟨i, rfl, hi, rfl, rfl⟩
  (repeat (first | ((with_reducible apply zr_seq)) | ((with_reducible apply zr_region); (try simp only [List.append_eq, List.cons_append, List.nil_append])) | ((with_reducible apply zo_end)) | ((with_reducible apply zs_move); (exact rfl); (exact rfl)) | ((with_reducible apply zs_geq); (exact rfl); (exact rfl); (exact rfl))))
  by_cases h0 : i = 0
  · subst h0
    have g4 : decide ((0 : Int) ≤ ((0 : Nat) : Int) - 1) = false := by decide
    (repeat (first | ((with_reducible apply zr_seq)) | ((with_reducible apply zr_region); (try simp only [List.append_eq, List.cons_append, List.nil_append])) | ((with_reducible apply zo_end)) | ((with_reducible apply zs_move); (exact rfl); (exact rfl)) | ((with_reducible apply zs_assign); (exact rfl); (exact rfl)) | ((with_reducible apply zr_cond_f); (exact rfl); (first | assumption | exact rfl)) | (with_reducible refine zr_exit ?_; simp only [Zthen, Zblock, ↓reduceIte])))
    refine zr_retZ rfl (resD_tmp rfl (resD_nil _ _ _)) ?_
    exact hK
  · have g4 : decide ((0 : Int) ≤ (i : Int) - 1) = true := decide_eq_true (by omega)
    (repeat (first | ((with_reducible apply zr_seq)) | ((with_reducible apply zr_region); (try simp only [List.append_eq, List.cons_append, List.nil_append])) | ((with_reducible apply zs_move); (exact rfl); (exact rfl)) | ((with_reducible apply zr_cond_t); (exact rfl); (first | assumption | exact rfl)) | ((with_reducible apply zr_block)) | ((with_reducible apply zr_skip'))))
    have hlt : i - 1 < l.length := by simp at hi; omega
    have hb := ((l.take 8).getD (i - 1) 0).toNat_lt
    have hnl := num_lt ((l.take 8).drop i)
    have hn0 := num_nonneg ((l.take 8).drop i)
    have hnl2 : num ((l.take 8).drop i) < 72057594037927936 := by
      have h7 : ((l.take 8).drop i).length ≤ 7 := by simp; omega
      have : (256 : Int) ^ ((l.take 8).drop i).length ≤ 256 ^ 7 := by
        have h8 : ((256 ^ ((l.take 8).drop i).length : Nat) : Int) ≤ ((256 ^ 7 : Nat) : Int) := Int.ofNat_le.mpr (Nat.pow_le_pow_right (by decide) h7)
        rw [Int.natCast_pow, Int.natCast_pow] at h8
        exact h8
      omega
    have e8 : IntKind.u64.wrap (num ((l.take 8).drop i) * 2 ^ min (Int.toNat 8) IntKind.u64.bits) = num ((l.take 8).drop i) * 256 := by
      have : min (Int.toNat 8) IntKind.u64.bits = 8 := by decide
      rw [this, show (2 : Int) ^ 8 = 256 from rfl]
      exact wrap_inU64 (by omega) (by omega)
    (try ((with_reducible apply zs_yes); exact rfl; exact rfl; (first | assumption | exact rfl))); refine zo_pure0 rfl rfl (by decide) (zp_shl rfl rfl rfl (by omega) e8) ?_
    (repeat (first | ((with_reducible apply zs_move); (exact rfl); (exact rfl))))
    have ei : (i : Int) - 1 = ((i - 1 : Nat) : Int) := by omega
    rw [ei]
    (try ((with_reducible apply zs_yes); exact rfl; exact rfl; (first | assumption | exact rfl))); refine zo_pure0 rfl rfl (by decide) (zp_idxB rfl zq26 sz5 rfl rfl hlt) ?_
    (try ((with_reducible apply zs_yes); exact rfl; exact rfl; (first | assumption | exact rfl))); refine zo_pure rfl rfl (by decide) (zp_load_ref rfl sh5 rfl rfl) ?_
    have hbb : (l.getD (i - 1) 0) = (l.take 8).getD (i - 1) 0 := by
      simp only [List.getD_eq_getElem?_getD, List.getElem?_take]; rw [if_pos (by omega)]
    rw [hbb]
    (repeat (first | ((with_reducible apply zs_conv); (exact rfl); (exact rfl); (exact un_int rfl); (exact un_int rfl); (first | first | (with_reducible assumption) | exact wrap_in64 (by omega) (by omega) | exact wrap_inU64 (by omega) (by omega)))))
    have e9 := or_shift (num ((l.take 8).drop i)) (((l.take 8).getD (i - 1) 0).toNat : Int) hn0 hnl2 (by omega) (by omega)
    have e10 := num_drop (l.take 8) (i - 1) (by omega)
    rw [show i - 1 + 1 = i by omega] at e10
    rw [← e10] at e9
    (try ((with_reducible apply zs_yes); exact rfl; exact rfl; (first | assumption | exact rfl))); refine zo_pure0 rfl rfl (by decide) (zp_or rfl rfl rfl e9) ?_
    (repeat (first | ((with_reducible apply zr_region); (try simp only [List.append_eq, List.cons_append, List.nil_append])) | ((with_reducible apply zo_end)) | ((with_reducible apply zo_endB)) | ((with_reducible apply zs_move); (exact rfl); (exact rfl)) | ((with_reducible apply zs_assign); (exact rfl); (exact rfl)) | ((with_reducible apply zs_sub); (exact rfl); (exact rfl); (exact rfl); (first | (with_reducible assumption) | exact wrap_in64 (by omega) (by omega)))))
    refine ⟨i - 1, [(0, .row (bytesD l) 1 tk), (3, .v (.int .u64 (num ((l.take 8).drop (i - 1))))), (4, .v (.int .i64 (((i - 1) : Nat) - 1 : Int)))], by omega, ⟨i - 1, rfl, by omega, rfl, rfl⟩, zq17⟩

attribute [irreducible] put putB num get
end Go.Proofs.ZtLe
namespace Go.Proofs.ZtLe
open Go.RowKit Go.Proofs Go.Proofs.Zm
set_option linter.unusedVariables false
set_option linter.unusedSimpArgs false
set_option maxHeartbeats 20000000
set_option maxRecDepth 100000
attribute [local irreducible] ZWp ZOps ZPure ZPure0 ZVal ZOp SoundF

/-! ### le.Zero -/
def zero (l : List UInt8) : Bool := l.all (· == 0)
theorem zero_of (l : List UInt8) (h : ∀ j, j < l.length → l.getD j 0 = 0) : zero l = true := by
  unfold zero
  rw [List.all_eq_true]
  intro x hx
  obtain ⟨j, hj⟩ := List.mem_iff_getElem?.1 hx
  have hlt := (List.getElem?_eq_some_iff.1 hj).1
  have := h j hlt
  rw [List.getD_eq_getElem?_getD, hj] at this
  simpa using this
theorem zero_not (l : List UInt8) (j : Nat) (hj : j < l.length) (h : l.getD j 0 ≠ 0) : zero l = false := by
  unfold zero
  rw [List.all_eq_false]
  rw [getD_in hj] at h
  exact ⟨l[j], List.getElem_mem hj, by simpa using h⟩
theorem byte_ne {b : UInt8} (h : ((b.toNat : Int)) ≠ 0) : b ≠ 0 := fun e => h (by rw [e]; rfl)
theorem byte_eq {b : UInt8} (h : ((b.toNat : Int)) = 0) : b = 0 := by
  apply UInt8.toNat_inj.1
  show b.toNat = 0
  omega

def zeroSpec : ZSpec := fun args st K => ∃ (l : List UInt8) (tk : Nat), args = [.row (bytesD l) 1 tk] ∧ l.length ≤ 140737488355328 ∧ K (.v (.bool (zero l))) st

theorem zero_snd : SoundF Try.prog 80 zeroSpec := by
  refine sound_of Try.func80 rfl Try.results80 ?_
  rintro w0 args st K ⟨l, tk, rfl, hl, hK⟩
  rw [Try.ntmps80]; refine ⟨by simp, ?_⟩
  (repeat (first | ((with_reducible apply zr_seq)) | ((with_reducible apply zr_region); (try simp only [List.append_eq, List.cons_append, List.nil_append])) | ((with_reducible apply zo_end)) | ((with_reducible apply zs_move); (exact rfl); (exact rfl)) | ((with_reducible apply zs_assign); (exact rfl); (exact rfl)) | ((with_reducible apply zs_lenB); (exact rfl); (exact rfl); (exact un_sl rfl)) | ((with_reducible apply zr_block))))
  refine zr_loopE (fun m env s => ∃ i : Nat, m + i = l.length ∧ (∀ j, j < i → l.getD j 0 = 0) ∧ env = [(5, .row (bytesD l) 1 tk), (6, .v (.int .i64 (l.length : Nat))), (7, .v (.int .i64 (i : Nat)))] ∧ s = st) l.length [(5, .row (bytesD l) 1 tk), (6, .v (.int .i64 (l.length : Nat))), (7, .v (.int .i64 (0 : Nat)))] zq17 ⟨0, rfl, fun j h => absurd h (by omega), rfl, rfl⟩ ?_
  rintro m env s ⟨i, hm, hz, rfl, rfl⟩
  (repeat (first | ((with_reducible apply zr_seq)) | ((with_reducible apply zr_region); (try simp only [List.append_eq, List.cons_append, List.nil_append])) | ((with_reducible apply zo_end)) | ((with_reducible apply zs_lss); (exact rfl); (exact rfl); (exact rfl))))
  by_cases hlt : i < l.length
  · have g4 : decide ((i : Int) < (l.length : Nat)) = true := decide_eq_true (by omega)
    (repeat (first | ((with_reducible apply zr_seq)) | ((with_reducible apply zr_region); (try simp only [List.append_eq, List.cons_append, List.nil_append])) | ((with_reducible apply zr_cond_t); (exact rfl); (first | assumption | exact rfl)) | ((with_reducible apply zr_block)) | ((with_reducible apply zr_skip'))))
    (try ((with_reducible apply zs_yes); exact rfl; exact rfl; (first | assumption | exact rfl))); refine zo_pure0 rfl rfl (by decide) (zp_idxB rfl zq26 sz5 rfl rfl hlt) ?_
    (try ((with_reducible apply zs_yes); exact rfl; exact rfl; (first | assumption | exact rfl))); refine zo_pure rfl rfl (by decide) (zp_load_ref rfl sh5 rfl rfl) ?_
    (repeat (first | ((with_reducible apply zr_seq)) | ((with_reducible apply zr_region); (try simp only [List.append_eq, List.cons_append, List.nil_append])) | ((with_reducible apply zo_end)) | ((with_reducible apply zs_move); (exact rfl); (exact rfl)) | ((with_reducible apply zs_assign); (exact rfl); (exact rfl)) | ((with_reducible apply zs_neq); (exact rfl); (exact rfl); (exact rfl))))
    by_cases hb : ((l.getD i 0).toNat : Int) ≠ 0
    · have g5 : decide (((l.getD i 0).toNat : Int) ≠ 0) = true := decide_eq_true hb
      (repeat (first | ((with_reducible apply zr_seq)) | ((with_reducible apply zr_region); (try simp only [List.append_eq, List.cons_append, List.nil_append])) | ((with_reducible apply zo_end)) | ((with_reducible apply zs_assign); (exact rfl); (exact rfl)) | ((with_reducible apply zr_cond_t); (exact rfl); (first | assumption | exact rfl))))
      refine zr_retZ rfl (resD_tmp rfl (resD_nil _ _ _)) ?_
      rw [zero_not l i hlt (byte_ne hb)] at hK
      exact hK
    · have g5 : decide (((l.getD i 0).toNat : Int) ≠ 0) = false := decide_eq_false hb
      (repeat (first | ((with_reducible apply zr_region); (try simp only [List.append_eq, List.cons_append, List.nil_append])) | ((with_reducible apply zo_end)) | ((with_reducible apply zs_move); (exact rfl); (exact rfl)) | ((with_reducible apply zs_add); (exact rfl); (exact rfl); (exact rfl); (first | (with_reducible assumption) | exact wrap_in64 (by omega) (by omega))) | ((with_reducible apply zr_cond_f); (exact rfl); (first | assumption | exact rfl)) | ((with_reducible apply zr_skipB))))
      refine ⟨m - 1, [(5, .row (bytesD l) 1 tk), (6, .v (.int .i64 (l.length : Nat))), (7, .v (.int .i64 ((i + 1) : Nat)))], by omega, ⟨i + 1, by omega, fun j hj => ?_, rfl, rfl⟩, zq17⟩
      by_cases hji : j = i
      · subst hji; exact byte_eq (by omega)
      · exact hz j (by omega)
  · have g4 : decide ((i : Int) < (l.length : Nat)) = false := decide_eq_false (by omega)
    (repeat (first | ((with_reducible apply zr_seq)) | ((with_reducible apply zr_region); (try simp only [List.append_eq, List.cons_append, List.nil_append])) | ((with_reducible apply zo_end)) | ((with_reducible apply zs_assign); (exact rfl); (exact rfl)) | ((with_reducible apply zr_cond_f); (exact rfl); (first | assumption | exact rfl)) | (with_reducible refine zr_exit ?_; simp only [Zthen, Zblock, ↓reduceIte])))
    refine zr_retZ rfl (resD_tmp rfl (resD_nil _ _ _)) ?_
    rw [zero_of l fun j hj => hz j (by omega)] at hK
    exact hK

/-! ### le.Pad -/
def padL (l : List UInt8) (most : Int) : Option (List UInt8) := if 0 ≤ most ∧ most ≤ 60000 ∧ (l.length : Int) ≤ most then some (putB l.length 2 ++ l ++ List.replicate (most.toNat - l.length) 0) else none

def padSpec : ZSpec := fun args st K => ∃ (l : List UInt8) (tk : Nat) (most : Int), args = [.row (bytesD l) 1 tk, .v (.int .i64 most)] ∧ l.length ≤ 140737488355328 ∧
  ∀ t, st.T t = false → t ≠ 0 → K (.tup [.row (bytesD ((padL l most).getD [])) 1 t, .v (.bool (padL l most).isSome)]) (st.setT t true)

theorem pad_snd : SoundF Try.prog 45 padSpec := by
  refine sound_of Try.func45 rfl Try.results45 ?_
  rintro w0 args st K ⟨l, tk, most, rfl, hl, hK⟩
  rw [Try.ntmps45]; refine ⟨by simp, ?_⟩
  (repeat (first | ((with_reducible apply zr_seq)) | ((with_reducible apply zr_region); (try simp only [List.append_eq, List.cons_append, List.nil_append])) | ((with_reducible apply zo_end)) | ((with_reducible apply zs_move); (exact rfl); (exact rfl)) | ((with_reducible apply zs_assign); (exact rfl); (exact rfl)) | ((with_reducible apply zs_lss); (exact rfl); (exact rfl); (exact rfl))))
  by_cases h1 : most < 0
  · have g1 : decide (most < 0) = true := decide_eq_true h1
    (repeat (first | ((with_reducible apply zr_seq)) | ((with_reducible apply zr_region); (try simp only [List.append_eq, List.cons_append, List.nil_append])) | ((with_reducible apply zo_end)) | ((with_reducible apply zs_noU); (exact rfl); (exact rfl); (first | assumption | exact rfl | (simp only [Bool.not_false, Bool.not_true]; assumption)); (exact rfl)) | ((with_reducible apply zs_move); (exact rfl); (exact rfl)) | ((with_reducible apply zs_assign); (exact rfl); (exact rfl)) | ((with_reducible apply zs_pick_t); (exact rfl); (exact rfl); (first | assumption | exact rfl); (exact rfl)) | ((with_reducible apply zr_cond_t); (exact rfl); (first | assumption | exact rfl))))
    refine zr_nil 4 1 rfl fun t ht ht0 => ?_
    refine zr_retZ rfl (resD_tmp rfl (resD_tmp rfl (resD_nil _ _ _))) ?_
    have := hK t ht ht0
    rw [show padL l most = none from by unfold padL; exact if_neg (by omega)] at this
    exact this
  have g1 : decide (most < 0) = false := decide_eq_false h1
  (repeat (first | ((with_reducible apply zs_yes); (exact rfl); (exact rfl); (first | assumption | exact rfl)) | ((with_reducible apply zs_move); (exact rfl); (exact rfl)) | ((with_reducible apply zs_gtr); (exact rfl); (exact rfl); (exact rfl)) | ((with_reducible apply zs_pick_f); (exact rfl); (exact rfl); (first | assumption | exact rfl); (exact rfl))))
  by_cases h2 : 60000 < most
  · have g2 : decide (60000 < most) = true := decide_eq_true h2
    (repeat (first | ((with_reducible apply zr_seq)) | ((with_reducible apply zr_region); (try simp only [List.append_eq, List.cons_append, List.nil_append])) | ((with_reducible apply zo_end)) | ((with_reducible apply zs_noU); (exact rfl); (exact rfl); (first | assumption | exact rfl | (simp only [Bool.not_false, Bool.not_true]; assumption)); (exact rfl)) | ((with_reducible apply zs_assign); (exact rfl); (exact rfl)) | ((with_reducible apply zs_pick_t); (exact rfl); (exact rfl); (first | assumption | exact rfl); (exact rfl)) | ((with_reducible apply zr_cond_t); (exact rfl); (first | assumption | exact rfl))))
    refine zr_nil 4 1 rfl fun t ht ht0 => ?_
    refine zr_retZ rfl (resD_tmp rfl (resD_tmp rfl (resD_nil _ _ _))) ?_
    have := hK t ht ht0
    rw [show padL l most = none from by unfold padL; exact if_neg (by omega)] at this
    exact this
  have g2 : decide (60000 < most) = false := decide_eq_false h2
  (repeat (first | ((with_reducible apply zo_end)) | ((with_reducible apply zs_yes); (exact rfl); (exact rfl); (first | assumption | exact rfl)) | ((with_reducible apply zs_move); (exact rfl); (exact rfl)) | ((with_reducible apply zs_gtr); (exact rfl); (exact rfl); (exact rfl)) | ((with_reducible apply zs_pick_f); (exact rfl); (exact rfl); (first | assumption | exact rfl); (exact rfl)) | ((with_reducible apply zs_lenB); (exact rfl); (exact rfl); (exact un_sl rfl))))
  by_cases h3 : most < (l.length : Nat)
  · have g3 : decide (most < (l.length : Nat)) = true := decide_eq_true h3
    (repeat (first | ((with_reducible apply zr_seq)) | ((with_reducible apply zr_region); (try simp only [List.append_eq, List.cons_append, List.nil_append])) | ((with_reducible apply zo_end)) | ((with_reducible apply zs_assign); (exact rfl); (exact rfl)) | ((with_reducible apply zr_cond_t); (exact rfl); (first | assumption | exact rfl))))
    refine zr_nil 4 1 rfl fun t ht ht0 => ?_
    refine zr_retZ rfl (resD_tmp rfl (resD_tmp rfl (resD_nil _ _ _))) ?_
    have := hK t ht ht0
    rw [show padL l most = none from by unfold padL; exact if_neg (by omega)] at this
    exact this
  have g3 : decide (most < (l.length : Nat)) = false := decide_eq_false h3
  have hp : padL l most = some (putB l.length 2 ++ l ++ List.replicate (most.toNat - l.length) 0) := by unfold padL; exact if_pos (by omega)
  (repeat (first | ((with_reducible apply zr_seq)) | ((with_reducible apply zr_region); (try simp only [List.append_eq, List.cons_append, List.nil_append])) | ((with_reducible apply zs_move); (exact rfl); (exact rfl)) | ((with_reducible apply zs_conv); (exact rfl); (exact rfl); (exact un_int rfl); (exact un_int rfl); (first | first | (with_reducible assumption) | exact wrap_in64 (by omega) (by omega) | exact wrap_inU64 (by omega) (by omega))) | ((with_reducible apply zs_lenB); (exact rfl); (exact rfl); (exact un_sl rfl)) | ((with_reducible apply zr_cond_f); (exact rfl); (first | assumption | exact rfl)) | ((with_reducible apply zr_skip'))))
  (try ((with_reducible apply zs_yes); exact rfl; exact rfl; (first | assumption | exact rfl))); refine zo_callU put_snd Try.func44 zq28 rfl rfl rfl rfl (by decide) rfl rfl zq3 ?_
  refine ⟨_, _, rfl, by omega, by omega, fun t ht ht0 => ?_⟩
  (repeat (first | ((with_reducible apply zs_move); (exact rfl); (exact rfl))))
  have hlp : (putB (l.length : Nat) 2).length = 2 := by simp [putB, put_length]
  (try ((with_reducible apply zs_yes); exact rfl; exact rfl; (first | assumption | exact rfl))); refine zo_val rfl rfl (by decide) (zv_append rfl el5 zq26 rfl (by simp) rfl (by simp [hlp]; omega) fun t2 h2 h20 => ?_)
  rw [St.setT_back ht]
  have ht2 : st.T t2 = false := by
    by_cases h : t2 = t
    · simp [h] at h2
    · simpa [h] using h2
  (repeat (first | ((with_reducible apply zr_seq)) | ((with_reducible apply zr_region); (try simp only [List.append_eq, List.cons_append, List.nil_append])) | ((with_reducible apply zo_end)) | ((with_reducible apply zs_move); (exact rfl); (exact rfl)) | ((with_reducible apply zs_assign); (exact rfl); (exact rfl)) | ((with_reducible apply zs_sub); (exact rfl); (exact rfl); (exact rfl); (first | (with_reducible assumption) | exact wrap_in64 (by omega) (by omega))) | ((with_reducible apply zs_lenB); (exact rfl); (exact rfl); (exact un_sl rfl))))
  (try ((with_reducible apply zs_yes); exact rfl; exact rfl; (first | assumption | exact rfl))); refine zo_val rfl rfl (by decide) (zv_append_zeros rfl el5 zq23 zq26 (by exact un_int rfl) rfl (by simp) rfl (by omega) (by simp [hlp]; omega) fun t3 h3' h30 => ?_)
  rw [St.setT_back ht2]
  have ht3 : st.T t3 = false := by
    by_cases h : t3 = t2
    · simp [h] at h3'
    · simpa [h] using h3'
  (repeat (first | ((with_reducible apply zo_end)) | ((with_reducible apply zs_assign); (exact rfl); (exact rfl))))
  refine zr_retZ rfl (resD_tmp rfl (resD_tmp rfl (resD_nil _ _ _))) ?_
  have := hK t3 ht3 h30
  rw [hp] at this
  rw [zeros, show (most - (l.length : Nat)).toNat = most.toNat - l.length by omega, ← bytesD_append, ← bytesD_append]
  exact this

attribute [irreducible] zero padL
end Go.Proofs.ZtLe
namespace Go.Proofs.ZtLe
open Go.RowKit Go.Proofs Go.Proofs.Zm
set_option linter.unusedVariables false
set_option linter.unusedSimpArgs false
set_option maxHeartbeats 20000000
set_option maxRecDepth 100000
attribute [local irreducible] ZWp ZOps ZPure ZPure0 ZVal ZOp SoundF

/-! ### le.Unpad -/
def unpadL (l : List UInt8) (most : Int) : Option (List UInt8) :=
  if 0 ≤ most ∧ most ≤ 60000 ∧ (l.length : Int) = most + 2 then
    (if get (l.take 2) ≤ most ∧ zero (l.drop (2 + (get (l.take 2)).toNat)) = true then some ((l.take (2 + (get (l.take 2)).toNat)).drop 2) else none) else none

theorem get_nonneg (l : List UInt8) : 0 ≤ get l := by unfold get; exact num_nonneg _
theorem get2_lt (l : List UInt8) : get (l.take 2) < 65536 := by
  have h := num_lt ((l.take 2).take 8)
  have h2 : ((l.take 2).take 8).length ≤ 2 := by simp; omega
  have : (256 : Int) ^ ((l.take 2).take 8).length ≤ 256 ^ 2 := by
    have h8 : ((256 ^ ((l.take 2).take 8).length : Nat) : Int) ≤ ((256 ^ 2 : Nat) : Int) := Int.ofNat_le.mpr (Nat.pow_le_pow_right (by decide) h2)
    rw [Int.natCast_pow, Int.natCast_pow] at h8
    exact h8
  unfold get
  omega

def unpadSpec : ZSpec := fun args st K => ∃ (l : List UInt8) (tk : Nat) (most : Int), args = [.row (bytesD l) 1 tk, .v (.int .i64 most)] ∧ l.length ≤ 140737488355328 ∧
  ∀ t, st.T t = false → t ≠ 0 → K (.tup [.row (bytesD ((unpadL l most).getD [])) 1 t, .v (.bool (unpadL l most).isSome)]) (st.setT t true)

theorem unpad_snd : SoundF Try.prog 49 unpadSpec := by
  refine sound_of Try.func49 rfl Try.results49 ?_
  rintro w0 args st K ⟨l, tk, most, rfl, hl, hK⟩
  rw [Try.ntmps49]; refine ⟨by simp, ?_⟩
  (repeat (first | ((with_reducible apply zr_seq)) | ((with_reducible apply zr_region); (try simp only [List.append_eq, List.cons_append, List.nil_append])) | ((with_reducible apply zo_end)) | ((with_reducible apply zs_move); (exact rfl); (exact rfl)) | ((with_reducible apply zs_assign); (exact rfl); (exact rfl)) | ((with_reducible apply zs_lss); (exact rfl); (exact rfl); (exact rfl))))
  by_cases h1 : most < 0
  · have g1 : decide (most < 0) = true := decide_eq_true h1
    (repeat (first | ((with_reducible apply zr_seq)) | ((with_reducible apply zr_region); (try simp only [List.append_eq, List.cons_append, List.nil_append])) | ((with_reducible apply zo_end)) | ((with_reducible apply zs_noU); (exact rfl); (exact rfl); (first | assumption | exact rfl | (simp only [Bool.not_false, Bool.not_true]; assumption)); (exact rfl)) | ((with_reducible apply zs_move); (exact rfl); (exact rfl)) | ((with_reducible apply zs_assign); (exact rfl); (exact rfl)) | ((with_reducible apply zs_pick_t); (exact rfl); (exact rfl); (first | assumption | exact rfl); (exact rfl)) | ((with_reducible apply zr_cond_t); (exact rfl); (first | assumption | exact rfl))))
    refine zr_nil 4 1 rfl fun t ht ht0 => ?_; refine zr_retZ rfl (resD_tmp rfl (resD_tmp rfl (resD_nil _ _ _))) ?_; have := hK t ht ht0; rw [show unpadL l most = none from by unfold unpadL; exact if_neg (by omega)] at this; exact this
  have g1 : decide (most < 0) = false := decide_eq_false h1
  (repeat (first | ((with_reducible apply zs_yes); (exact rfl); (exact rfl); (first | assumption | exact rfl)) | ((with_reducible apply zs_move); (exact rfl); (exact rfl)) | ((with_reducible apply zs_gtr); (exact rfl); (exact rfl); (exact rfl)) | ((with_reducible apply zs_pick_f); (exact rfl); (exact rfl); (first | assumption | exact rfl); (exact rfl))))
  by_cases h2 : 60000 < most
  · have g2 : decide (60000 < most) = true := decide_eq_true h2
    (repeat (first | ((with_reducible apply zr_seq)) | ((with_reducible apply zr_region); (try simp only [List.append_eq, List.cons_append, List.nil_append])) | ((with_reducible apply zo_end)) | ((with_reducible apply zs_noU); (exact rfl); (exact rfl); (first | assumption | exact rfl | (simp only [Bool.not_false, Bool.not_true]; assumption)); (exact rfl)) | ((with_reducible apply zs_assign); (exact rfl); (exact rfl)) | ((with_reducible apply zs_pick_t); (exact rfl); (exact rfl); (first | assumption | exact rfl); (exact rfl)) | ((with_reducible apply zr_cond_t); (exact rfl); (first | assumption | exact rfl))))
    refine zr_nil 4 1 rfl fun t ht ht0 => ?_; refine zr_retZ rfl (resD_tmp rfl (resD_tmp rfl (resD_nil _ _ _))) ?_; have := hK t ht ht0; rw [show unpadL l most = none from by unfold unpadL; exact if_neg (by omega)] at this; exact this
  have g2 : decide (60000 < most) = false := decide_eq_false h2
  (repeat (first | ((with_reducible apply zo_end)) | ((with_reducible apply zs_yes); (exact rfl); (exact rfl); (first | assumption | exact rfl)) | ((with_reducible apply zs_move); (exact rfl); (exact rfl)) | ((with_reducible apply zs_neq); (exact rfl); (exact rfl); (exact rfl)) | ((with_reducible apply zs_pick_f); (exact rfl); (exact rfl); (first | assumption | exact rfl); (exact rfl)) | ((with_reducible apply zs_add); (exact rfl); (exact rfl); (exact rfl); (first | (with_reducible assumption) | exact wrap_in64 (by omega) (by omega))) | ((with_reducible apply zs_lenB); (exact rfl); (exact rfl); (exact un_sl rfl))))
  by_cases h3 : ((l.length : Nat) : Int) ≠ most + 2
  · have g3 : decide (((l.length : Nat) : Int) ≠ most + 2) = true := decide_eq_true h3
    (repeat (first | ((with_reducible apply zr_seq)) | ((with_reducible apply zr_region); (try simp only [List.append_eq, List.cons_append, List.nil_append])) | ((with_reducible apply zo_end)) | ((with_reducible apply zs_assign); (exact rfl); (exact rfl)) | ((with_reducible apply zr_cond_t); (exact rfl); (first | assumption | exact rfl))))
    refine zr_nil 4 1 rfl fun t ht ht0 => ?_; refine zr_retZ rfl (resD_tmp rfl (resD_tmp rfl (resD_nil _ _ _))) ?_; have := hK t ht ht0; rw [show unpadL l most = none from by unfold unpadL; exact if_neg (by omega)] at this; exact this
  have g3 : decide (((l.length : Nat) : Int) ≠ most + 2) = false := decide_eq_false h3
  have hu : unpadL l most = if get (l.take 2) ≤ most ∧ zero (l.drop (2 + (get (l.take 2)).toNat)) = true then some ((l.take (2 + (get (l.take 2)).toNat)).drop 2) else none := by unfold unpadL; exact if_pos (by omega)
  have hg0 := get_nonneg (l.take 2)
  have hg1 := get2_lt l
  (repeat (first | ((with_reducible apply zr_seq)) | ((with_reducible apply zr_region); (try simp only [List.append_eq, List.cons_append, List.nil_append])) | ((with_reducible apply zs_move); (exact rfl); (exact rfl)) | ((with_reducible apply zr_cond_f); (exact rfl); (first | assumption | exact rfl)) | ((with_reducible apply zr_skip'))))
  (try ((with_reducible apply zs_yes); exact rfl; exact rfl; (first | assumption | exact rfl))); refine zo_pure0 rfl rfl (by decide) (zp_cutB rfl zq26 sz5 rfl (l := 0) (m := 2) rfl ⟨_, rfl⟩ (by omega) (by omega)) ?_
  rw [List.drop_zero]
  (try ((with_reducible apply zs_yes); exact rfl; exact rfl; (first | assumption | exact rfl))); refine zo_callU get_snd Try.func59 zq28 rfl rfl rfl rfl (by decide) rfl rfl zq3 ?_
  refine ⟨_, _, rfl, by simp; omega, ?_⟩
  (repeat (first | ((with_reducible apply zr_seq)) | ((with_reducible apply zr_region); (try simp only [List.append_eq, List.cons_append, List.nil_append])) | ((with_reducible apply zo_end)) | ((with_reducible apply zs_move); (exact rfl); (exact rfl)) | ((with_reducible apply zs_assign); (exact rfl); (exact rfl)) | ((with_reducible apply zs_gtr); (exact rfl); (exact rfl); (exact rfl)) | ((with_reducible apply zs_conv); (exact rfl); (exact rfl); (exact un_int rfl); (exact un_int rfl); (first | first | (with_reducible assumption) | exact wrap_in64 (by omega) (by omega) | exact wrap_inU64 (by omega) (by omega)))))
  by_cases h4 : most < get (l.take 2)
  · have g4 : decide (most < get (l.take 2)) = true := decide_eq_true h4
    (repeat (first | ((with_reducible apply zr_seq)) | ((with_reducible apply zr_region); (try simp only [List.append_eq, List.cons_append, List.nil_append])) | ((with_reducible apply zo_end)) | ((with_reducible apply zs_noU); (exact rfl); (exact rfl); (first | assumption | exact rfl | (simp only [Bool.not_false, Bool.not_true]; assumption)); (exact rfl)) | ((with_reducible apply zs_assign); (exact rfl); (exact rfl)) | ((with_reducible apply zs_pick_t); (exact rfl); (exact rfl); (first | assumption | exact rfl); (exact rfl)) | ((with_reducible apply zr_cond_t); (exact rfl); (first | assumption | exact rfl))))
    refine zr_nil 4 1 rfl fun t ht ht0 => ?_
    refine zr_retZ rfl (resD_tmp rfl (resD_tmp rfl (resD_nil _ _ _))) ?_
    have := hK t ht ht0
    rw [hu, if_neg (by omega)] at this
    exact this
  have g4 : decide (most < get (l.take 2)) = false := decide_eq_false h4
  (repeat (first | ((with_reducible apply zs_yes); (exact rfl); (exact rfl); (first | assumption | exact rfl)) | ((with_reducible apply zs_move); (exact rfl); (exact rfl)) | ((with_reducible apply zs_add); (exact rfl); (exact rfl); (exact rfl); (first | (with_reducible assumption) | exact wrap_in64 (by omega) (by omega)))))
  have e5 : (2 : Int) + get (l.take 2) = ((2 + (get (l.take 2)).toNat : Nat) : Int) := by omega
  rw [e5]
  (try ((with_reducible apply zs_yes); exact rfl; exact rfl; (first | assumption | exact rfl))); refine zo_pure0 rfl rfl (by decide) (zp_cutB rfl zq26 sz5 rfl (l := 2 + (get (l.take 2)).toNat) (m := l.length) ⟨_, rfl⟩ rfl (by omega) (by omega)) ?_
  rw [List.take_length]
  (try ((with_reducible apply zs_yes); exact rfl; exact rfl; (first | assumption | exact rfl))); refine zo_callU zero_snd Try.func80 zq28 rfl rfl rfl rfl (by decide) rfl rfl zq3 ?_
  refine ⟨_, _, rfl, by simp; omega, ?_⟩
  cases h6 : zero (l.drop (2 + (get (l.take 2)).toNat))
  · (repeat (first | ((with_reducible apply zr_seq)) | ((with_reducible apply zr_region); (try simp only [List.append_eq, List.cons_append, List.nil_append])) | ((with_reducible apply zo_end)) | ((with_reducible apply zs_yes); (exact rfl); (exact rfl); (first | assumption | exact rfl)) | ((with_reducible apply zs_assign); (exact rfl); (exact rfl)) | ((with_reducible apply zs_not); (exact rfl); (exact rfl)) | ((with_reducible apply zs_pick_f); (exact rfl); (exact rfl); (first | assumption | exact rfl); (exact rfl)) | ((with_reducible apply zr_cond_t); (exact rfl); (first | assumption | exact rfl))))
    refine zr_nil 4 1 rfl fun t ht ht0 => ?_
    refine zr_retZ rfl (resD_tmp rfl (resD_tmp rfl (resD_nil _ _ _))) ?_
    have := hK t ht ht0
    rw [hu, h6, if_neg (by simp)] at this
    exact this
  · (repeat (first | ((with_reducible apply zr_seq)) | ((with_reducible apply zr_region); (try simp only [List.append_eq, List.cons_append, List.nil_append])) | ((with_reducible apply zo_end)) | ((with_reducible apply zs_yes); (exact rfl); (exact rfl); (first | assumption | exact rfl)) | ((with_reducible apply zs_move); (exact rfl); (exact rfl)) | ((with_reducible apply zs_not); (exact rfl); (exact rfl)) | ((with_reducible apply zs_pick_f); (exact rfl); (exact rfl); (first | assumption | exact rfl); (exact rfl)) | ((with_reducible apply zs_add); (exact rfl); (exact rfl); (exact rfl); (first | (with_reducible assumption) | exact wrap_in64 (by omega) (by omega))) | ((with_reducible apply zr_cond_f); (exact rfl); (first | assumption | exact rfl)) | ((with_reducible apply zr_skip'))))
    rw [e5]
    (try ((with_reducible apply zs_yes); exact rfl; exact rfl; (first | assumption | exact rfl))); refine zo_pure0 rfl rfl (by decide) (zp_cutB rfl zq26 sz5 rfl (l := 2) (m := 2 + (get (l.take 2)).toNat) ⟨_, rfl⟩ ⟨_, rfl⟩ (by omega) (by omega)) ?_
    (try ((with_reducible apply zs_yes); exact rfl; exact rfl; (first | assumption | exact rfl))); refine zo_val rfl rfl (by decide) (zv_append_nil rfl el5 zq26 rfl rfl (by simp; omega) fun t ht ht0 => ?_)
    (repeat (first | ((with_reducible apply zo_end)) | ((with_reducible apply zs_assign); (exact rfl); (exact rfl))))
    refine zr_retZ rfl (resD_tmp rfl (resD_tmp rfl (resD_nil _ _ _))) ?_
    have := hK t ht ht0
    rw [hu, h6, if_pos ⟨by omega, rfl⟩] at this
    exact this

/-! ### le.Sum -/
def step (h : Int) (b : UInt8) : Int := IntKind.u64.wrap (IntKind.u64.wrap ((BitVec.ofInt IntKind.u64.bits h ^^^ BitVec.ofInt IntKind.u64.bits (b.toNat : Int)).toNat : Int) * 1099511628211)
def sumL (l : List UInt8) : Int := l.foldl step 14695981039346656037
theorem take_succ_byte (l : List UInt8) (i : Nat) (h : i < l.length) : l.take (i + 1) = l.take i ++ [l.getD i 0] := by
  rw [List.take_succ_eq_append_getElem h, getD_in h]
/-- Parts. -/
def partsD (ps : List (List UInt8 × Nat)) : List (List D) := ps.map fun p => [.row (bytesD p.1) 1 p.2]
@[simp] theorem partsD_length (ps) : (partsD ps).length = ps.length := by simp [partsD]
theorem partsD_getD (ps : List (List UInt8 × Nat)) (i : Nat) (h : i < ps.length) : (partsD ps).getD i [] = [.row (bytesD (ps.getD i ([], 0)).1) 1 (ps.getD i ([], 0)).2] := by
  rw [getD_in (by simpa using h), getD_in h]; simp [partsD]

theorem sz22 : (Try.prog.info? 27).map (·.size) = some 1 := by kernel_rfl
theorem sh22 : shapeIs Try.prog 27 false 1 := shape_one Try.underlying27 trivial sz22
theorem if22 : ∃ i, Try.prog.info? 27 = some i ∧ i.size = 1 := Option.map_eq_some_iff.1 sz22


end Go.Proofs.ZtLe
namespace Go.Proofs.ZtLe
open Go.RowKit Go.Proofs Go.Proofs.Zm
set_option linter.unusedVariables false
set_option linter.unusedSimpArgs false
set_option maxHeartbeats 20000000
set_option maxRecDepth 100000
attribute [local irreducible] ZWp ZOps ZPure ZPure0 ZVal ZOp SoundF

/-! ### dumbwaiterref1.Same -/
def sameSpec : ZSpec := fun args st K => ∃ (l m : List UInt8) (tk tm : Nat), args = [.row (bytesD l) 1 tk, .row (bytesD m) 1 tm] ∧ K (.v (.bool (l == m))) st
theorem same_snd : SoundF Try.prog 19 sameSpec := by
  refine sound_of Try.func19 rfl Try.results19 ?_
  rintro w0 args st K ⟨l, m, tk, tm, rfl, hK⟩
  rw [Try.ntmps19]; refine ⟨by simp, ?_⟩
  (repeat (first | ((with_reducible apply zr_seq)) | ((with_reducible apply zr_region); (try simp only [List.append_eq, List.cons_append, List.nil_append])) | ((with_reducible apply zo_end)) | ((with_reducible apply zs_move); (exact rfl); (exact rfl)) | ((with_reducible apply zs_assign); (exact rfl); (exact rfl))))
  (try ((with_reducible apply zs_yes); exact rfl; exact rfl; (first | assumption | exact rfl))); refine zo_pure rfl rfl (by decide) (zp_toStr rfl zq26 Try.underlying5 Try.underlying9 rfl) ?_
  (repeat (first | ((with_reducible apply zs_move); (exact rfl); (exact rfl))))
  (try ((with_reducible apply zs_yes); exact rfl; exact rfl; (first | assumption | exact rfl))); refine zo_pure rfl rfl (by decide) (zp_toStr rfl zq26 Try.underlying5 Try.underlying9 rfl) ?_
  (try ((with_reducible apply zs_yes); exact rfl; exact rfl; (first | assumption | exact rfl))); refine zo_pure0 rfl rfl (by decide) (zp_str rfl rfl rfl (.inl ⟨rfl, rfl⟩)) ?_
  (repeat (first | ((with_reducible apply zo_end)) | ((with_reducible apply zs_assign); (exact rfl); (exact rfl))))
  refine zr_retZ rfl (resD_tmp rfl (resD_nil _ _ _)) ?_
  simpa [resOf] using hK

/-! ### dumbwaiterref1.Put -/
/-! ### dumbwaiterref1.Get -/
theorem num_take_succ (l : List UInt8) (i : Nat) (h : i < l.length) : num (l.take (i + 1)) = num (l.take i) + 256 ^ i * ((l.getD i 0).toNat : Int) := by
  induction l generalizing i with
  | nil => simp at h
  | cons b l ih =>
    cases i with
    | zero => simp [num]
    | succ i =>
      have := ih i (by simpa using h)
      simp only [List.take_succ_cons, num, List.getD_cons_succ] at this ⊢
      rw [this, Int.pow_succ, Int.mul_add, Int.add_assoc, Int.mul_comm (256 ^ i) 256, Int.mul_assoc]
/-! ### dumbwaiterref1.Pad -/
/-! ### dumbwaiterref1.Unpad -/
end Go.Proofs.ZtLe
namespace Go.Proofs.ZtLe
open Go.RowKit Go.Proofs Go.Proofs.Zm
set_option linter.unusedVariables false
set_option linter.unusedSimpArgs false
set_option maxHeartbeats 20000000
set_option maxRecDepth 100000
attribute [local irreducible] ZWp ZOps ZPure ZPure0 ZVal ZOp SoundF
end Go.Proofs.ZtLe
