/- A part of the proof of StshKeeps: walks of the functions that it reaches. No condition. -/
import Derived.Test.YtaiegjgiodlpaaaDoorZtP1
import Derived.Test.YtaiegjgiodlpaaaDoorZmAuto
import Derived.Test.YtaiegjgiodlpaaaDoorZmP1
import Derived.Test.YtaiegjgiodlpaaaDoorZmP2
namespace Go.Proofs.ZtLe
open Go.RowKit Go.Proofs Go.Proofs.Zm
set_option linter.unusedVariables false
set_option linter.unusedSimpArgs false
set_option maxHeartbeats 20000000
set_option maxRecDepth 100000
attribute [local irreducible] ZWp ZOps ZPure ZPure0 ZVal ZOp SoundF

/-! ### le.Unpad -/
def unpadL (l : List UInt8) (most : Int) : Option (List UInt8) :=
  if 0 ≤ most ∧ most ≤ 60000 ∧ (l.length : Int) = most + 2 then
    (if get (l.take 2) ≤ most ∧ zero (l.drop (2 + (get (l.take 2)).toNat)) = true then some ((l.take (2 + (get (l.take 2)).toNat)).drop 2) else none) else none

def unpadSpec : ZSpec := fun args st K => ∃ (l : List UInt8) (tk : Nat) (most : Int), args = [.row (bytesD l) 1 tk, .v (.int .i64 most)] ∧ l.length ≤ 140737488355328 ∧
  ∀ t, st.T t = false → t ≠ 0 → K (.tup [.row (bytesD ((unpadL l most).getD [])) 1 t, .v (.bool (unpadL l most).isSome)]) (st.setT t true)


/-! ### le.Sum -/
def step (h : Int) (b : UInt8) : Int := IntKind.u64.wrap (IntKind.u64.wrap ((BitVec.ofInt IntKind.u64.bits h ^^^ BitVec.ofInt IntKind.u64.bits (b.toNat : Int)).toNat : Int) * 1099511628211)
def sumL (l : List UInt8) : Int := l.foldl step 14695981039346656037
theorem take_succ_byte (l : List UInt8) (i : Nat) (h : i < l.length) : l.take (i + 1) = l.take i ++ [l.getD i 0] := by
  rw [List.take_succ_eq_append_getElem h, getD_in h]
/-- Parts. -/
def partsD (ps : List (List UInt8 × Nat)) : List (List D) := ps.map fun p => [.row (bytesD p.1) 1 p.2]
@[simp] theorem partsD_length (ps) : (partsD ps).length = ps.length := by simp [partsD]
theorem partsD_getD (ps : List (List UInt8 × Nat)) (i : Nat) (h : i < ps.length) : (partsD ps).getD i [] = [.row (bytesD (ps.getD i ([], 0)).1) 1 (ps.getD i ([], 0)).2] := by
  rw [getD_in (by simpa using h), getD_in h]; simp [partsD]

theorem sz22 : (Tryd.prog.info? 27).map (·.size) = some 1 := by kernel_rfl
theorem sh22 : shapeIs Tryd.prog 27 false 1 := shape_one Tryd.underlying27 trivial sz22
theorem if22 : ∃ i, Tryd.prog.info? 27 = some i ∧ i.size = 1 := Option.map_eq_some_iff.1 sz22


end Go.Proofs.ZtLe
namespace Go.Proofs.ZtLe
open Go.RowKit Go.Proofs Go.Proofs.Zm
set_option linter.unusedVariables false
set_option linter.unusedSimpArgs false
set_option maxHeartbeats 20000000
set_option maxRecDepth 100000
attribute [local irreducible] ZWp ZOps ZPure ZPure0 ZVal ZOp SoundF

/-! ### dumbwaiterref1.Same -/
def sameSpec : ZSpec := fun args st K => ∃ (l m : List UInt8) (tk tm : Nat), args = [.row (bytesD l) 1 tk, .row (bytesD m) 1 tm] ∧ K (.v (.bool (l == m))) st
/-! ### dumbwaiterref1.Put -/
/-! ### dumbwaiterref1.Get -/
theorem num_take_succ (l : List UInt8) (i : Nat) (h : i < l.length) : num (l.take (i + 1)) = num (l.take i) + 256 ^ i * ((l.getD i 0).toNat : Int) := by
  induction l generalizing i with
  | nil => simp at h
  | cons b l ih =>
    cases i with
    | zero => simp [num]
    | succ i =>
      have := ih i (by simpa using h)
      simp only [List.take_succ_cons, num, List.getD_cons_succ] at this ⊢
      rw [this, Int.pow_succ, Int.mul_add, Int.add_assoc, Int.mul_comm (256 ^ i) 256, Int.mul_assoc]
/-! ### dumbwaiterref1.Pad -/

/-! ### dumbwaiterref1.Unpad -/

end Go.Proofs.ZtLe
namespace Go.Proofs.ZtLe
open Go.RowKit Go.Proofs Go.Proofs.Zm
set_option linter.unusedVariables false
set_option linter.unusedSimpArgs false
set_option maxHeartbeats 20000000
set_option maxRecDepth 100000
attribute [local irreducible] ZWp ZOps ZPure ZPure0 ZVal ZOp SoundF
theorem el_Row : ElemOk Tryd.prog 27 1 24 [.v (.slice none 0 0)] := el_of rfl
end Go.Proofs.ZtLe
namespace Go.Proofs.ZtLe
open Go.RowKit Go.Proofs Go.Proofs.Zm
set_option linter.unusedVariables false
set_option linter.unusedSimpArgs false
set_option maxHeartbeats 20000000
set_option maxRecDepth 100000
attribute [local irreducible] ZWp ZOps ZPure ZPure0 ZVal ZOp SoundF

/-! ### bytes, as an own block's cells -/
def bcl (l : List UInt8) : List D := l.map fun b => .v (.int .u8 (b.toNat : Int))
@[simp] theorem bcl_length (l : List UInt8) : (bcl l).length = l.length := by simp [bcl]
theorem bcl_append (l m : List UInt8) : bcl (l ++ m) = bcl l ++ bcl m := by simp [bcl]
theorem bcl_flat (l : List UInt8) : (bytesD l).flatten = bcl l := by
  induction l with
  | nil => rfl
  | cons b l ih => simp only [bytesD, bcl, List.map_cons, List.flatten_cons] at ih ⊢; rw [ih]; rfl
theorem bytesD_ones (l : List UInt8) : ∀ x ∈ bytesD l, x.length = 1 := fun x hx => by
  simp only [bytesD, List.mem_map] at hx
  obtain ⟨b, _, rfl⟩ := hx; rfl

/-! ### slices.Grow, of nil -/
def growSpec : ZSpec := fun args st K => ∃ n : Int, args = [.v (.slice none 0 0), .v (.int .i64 n)] ∧ 0 ≤ n ∧ n ≤ 140737488355328 ∧
  (n = 0 → K (.v (.slice none 0 0)) st) ∧ (0 < n → ∀ id c, Fresh st id → n.toNat ≤ c → K (.mrow id 0 0 c) (st.setH id (some (List.replicate n.toNat (.v (.int .u8 0))))))
theorem grow_snd : SoundF Tryd.prog 57 growSpec := by
  refine sound_of Tryd.func57 rfl Tryd.results57 ?_
  rintro w0 args st K ⟨n, rfl, h0, h1, hK0, hK⟩
  rw [Tryd.ntmps57]; refine ⟨by simp, ?_⟩
  have g1 : decide (n < 0) = false := decide_eq_false (by omega)
  (repeat (first | ((with_reducible apply zr_seq)) | ((with_reducible apply zr_region); (try simp only [List.append_eq, List.cons_append, List.nil_append])) | ((with_reducible apply zo_end)) | ((with_reducible apply zs_move); (exact rfl); (exact rfl)) | ((with_reducible apply zs_assign); (exact rfl); (exact rfl)) | ((with_reducible apply zs_lss); (exact rfl); (exact rfl); (exact rfl)) | ((with_reducible apply zr_cond_f); (exact rfl); (first | assumption | exact rfl)) | ((with_reducible apply zr_skip'))))
  (try ((with_reducible apply zs_yes); exact rfl; exact rfl; (first | assumption | exact rfl))); refine zo_pure0 rfl rfl (by decide) (zp_cap_nil rfl zq16 rfl) ?_
  (repeat (first | ((with_reducible apply zr_seq)) | ((with_reducible apply zr_region); (try simp only [List.append_eq, List.cons_append, List.nil_append])) | ((with_reducible apply zo_end)) | ((with_reducible apply zs_move); (exact rfl); (exact rfl)) | ((with_reducible apply zs_assign); (exact rfl); (exact rfl)) | ((with_reducible apply zs_gtr); (exact rfl); (exact rfl); (exact rfl)) | ((with_reducible apply zs_sub); (exact rfl); (exact rfl); (exact rfl); (first | (with_reducible assumption) | exact wrap_in64 (by omega) (by omega))) | ((with_reducible apply zs_len_nil); (exact rfl); (exact rfl); (exact un_sl rfl))))
  rw [show n - ((0 : Nat) - (0 : Nat) : Int) = n by omega]
  skip
  by_cases hn : 0 < n
  · have g2 : decide (0 < n) = true := decide_eq_true hn
    (repeat (first | ((with_reducible apply zr_region); (try simp only [List.append_eq, List.cons_append, List.nil_append])) | ((with_reducible apply zs_move); (exact rfl); (exact rfl)) | ((with_reducible apply zr_cond_t); (exact rfl); (first | assumption | exact rfl))))
    (try ((with_reducible apply zs_yes); exact rfl; exact rfl; (first | assumption | exact rfl))); refine zo_pure0 rfl rfl (by decide) (zp_cap_nil rfl zq16 rfl) ?_
    obtain ⟨i5, hi5, hk5⟩ := Option.map_eq_some_iff.1 sz5
    (try ((with_reducible apply zs_yes); exact rfl; exact rfl; (first | assumption | exact rfl))); refine zo_pure0 rfl rfl (by decide) (zp_cut_nil rfl zq16 hi5 rfl rfl ⟨_, rfl⟩) ?_
    (repeat (first | ((with_reducible apply zs_move); (exact rfl); (exact rfl))))
    (try ((with_reducible apply zs_yes); exact rfl; exact rfl; (first | assumption | exact rfl))); refine zo_val rfl rfl (by decide) (zv_zeros_own rfl el5 (by simp [oneD, Value.oneCell']) zq16 (by exact un_int rfl) rfl rfl hn (by omega) fun id c hid hc => ?_)
    (repeat (first | ((with_reducible apply zs_move); (exact rfl); (exact rfl)) | ((with_reducible apply zs_len_nil); (exact rfl); (exact rfl); (exact un_sl rfl))))
    (try ((with_reducible apply zs_yes); exact rfl; exact rfl; (first | assumption | exact rfl))); refine zo_pure0 rfl rfl (by decide) (zp_cut_mrow rfl zq16 hi5 hk5 rfl (l := 0) (h := 0) rfl ⟨_, rfl⟩ (by omega) (by omega) (.inl rfl)) ?_
    (repeat (first | ((with_reducible apply zr_seq)) | ((with_reducible apply zr_region); (try simp only [List.append_eq, List.cons_append, List.nil_append])) | ((with_reducible apply zo_end)) | ((with_reducible apply zs_move); (exact rfl); (exact rfl)) | ((with_reducible apply zs_assign); (exact rfl); (exact rfl))))
    refine zr_retZ rfl (resD_tmp rfl (resD_nil _ _ _)) ?_
    have := hK hn id c hid hc
    simpa [resOf] using this
  · have g2 : decide (0 < n) = false := decide_eq_false hn
    (repeat (first | ((with_reducible apply zr_seq)) | ((with_reducible apply zr_region); (try simp only [List.append_eq, List.cons_append, List.nil_append])) | ((with_reducible apply zo_end)) | ((with_reducible apply zs_move); (exact rfl); (exact rfl)) | ((with_reducible apply zs_assign); (exact rfl); (exact rfl)) | ((with_reducible apply zr_cond_f); (exact rfl); (first | assumption | exact rfl)) | ((with_reducible apply zr_skip'))))
    refine zr_retZ rfl (resD_tmp rfl (resD_nil _ _ _)) ?_
    exact hK0 (by omega)

/-! ### slices.Concat -/
def concatSpec : ZSpec := fun args st K => ∃ (ps : List (List UInt8 × Nat)) (tk : Nat), args = [.row (partsD ps) 1 tk] ∧ ps.length ≤ 140737488355328 ∧ (ps.flatMap Prod.fst).length ≤ 140737488355328 ∧ K (.row (bytesD (ps.flatMap Prod.fst)) 1 0) st

theorem take_flat (ps : List (List UInt8 × Nat)) (i : Nat) (h : i < ps.length) : (ps.take (i + 1)).flatMap Prod.fst = (ps.take i).flatMap Prod.fst ++ (ps.getD i ([], 0)).1 := by
  rw [List.take_succ_eq_append_getElem h, getD_in h, List.flatMap_append]; simp
theorem take_flat_le (ps : List (List UInt8 × Nat)) (i : Nat) : ((ps.take i).flatMap Prod.fst).length ≤ (ps.flatMap Prod.fst).length := by
  have : ps.flatMap Prod.fst = (ps.take i).flatMap Prod.fst ++ (ps.drop i).flatMap Prod.fst := by rw [← List.flatMap_append, List.take_append_drop]
  rw [this, List.length_append]; omega

theorem concat_snd : SoundF Tryd.prog 44 concatSpec := by
  refine sound_of Tryd.func44 rfl Tryd.results44 ?_
  rintro w0 args st K ⟨ps, tk, rfl, hpl, htl, hK⟩
  rw [Tryd.ntmps44]; refine ⟨by simp, ?_⟩
  obtain ⟨i22, hi22, hk22⟩ := if22
  obtain ⟨i5, hi5, hk5⟩ := Option.map_eq_some_iff.1 sz5
  (repeat (first | ((with_reducible apply zr_seq)) | ((with_reducible apply zr_region); (try simp only [List.append_eq, List.cons_append, List.nil_append])) | ((with_reducible apply zo_end)) | ((with_reducible apply zs_move); (exact rfl); (exact rfl)) | ((with_reducible apply zs_assign); (exact rfl); (exact rfl)) | ((with_reducible apply zs_len); (exact rfl); (exact rfl); (exact un_sl rfl)) | ((with_reducible apply zr_block))))
  rw [partsD_length]
  refine zr_loopE (fun m env s => ∃ i : Nat, m + i = ps.length ∧ env = [(0, .row (partsD ps) 1 tk), (3, .v (.int .i64 (((ps.take i).flatMap Prod.fst).length : Nat))), (9, .row (partsD ps) 1 tk), (10, .v (.int .i64 (ps.length : Nat))), (11, .v (.int .i64 (i : Nat)))] ∧ s = st) ps.length [(0, .row (partsD ps) 1 tk), (3, .v (.int .i64 (((ps.take 0).flatMap Prod.fst).length : Nat))), (9, .row (partsD ps) 1 tk), (10, .v (.int .i64 (ps.length : Nat))), (11, .v (.int .i64 (0 : Nat)))] zq10 ⟨0, rfl, rfl, rfl⟩ ?_
  rintro m env s ⟨i, hm, rfl, rfl⟩
  (repeat (first | ((with_reducible apply zr_seq)) | ((with_reducible apply zr_region); (try simp only [List.append_eq, List.cons_append, List.nil_append])) | ((with_reducible apply zo_end)) | ((with_reducible apply zs_lss); (exact rfl); (exact rfl); (exact rfl))))
  by_cases hlt : i < ps.length
  · have g4 : decide ((i : Int) < (ps.length : Nat)) = true := decide_eq_true (by omega)
    (repeat (first | ((with_reducible apply zr_seq)) | ((with_reducible apply zr_region); (try simp only [List.append_eq, List.cons_append, List.nil_append])) | ((with_reducible apply zr_cond_t); (exact rfl); (first | assumption | exact rfl)) | ((with_reducible apply zr_block)) | ((with_reducible apply zr_skip'))))
    (try ((with_reducible apply zs_yes); exact rfl; exact rfl; (first | assumption | exact rfl))); refine zo_pure0 rfl rfl (by decide) (zp_indexAddr rfl zq16 hi22 hk22 rfl rfl (by omega) (by simpa using hlt)) ?_
    rw [Int.toNat_natCast, partsD_getD ps i hlt]
    (try ((with_reducible apply zs_yes); exact rfl; exact rfl; (first | assumption | exact rfl))); refine zo_pure rfl rfl (by decide) (zp_load_ref rfl sh22 rfl rfl) ?_
    have hfl := take_flat ps i hlt
    have hle := take_flat_le ps (i + 1)
    have hadd : (((ps.take i).flatMap Prod.fst).length : Int) + ((ps.getD i ([], 0)).1.length : Nat) = (((ps.take (i + 1)).flatMap Prod.fst).length : Nat) := by rw [hfl, List.length_append]; omega
    have hadd2 : ((ps.getD i ([], 0)).1.length : Nat) ≤ 140737488355328 := by omega
    have hadd3 := take_flat_le ps i
    (repeat (first | ((with_reducible apply zr_seq)) | ((with_reducible apply zr_region); (try simp only [List.append_eq, List.cons_append, List.nil_append])) | ((with_reducible apply zo_end)) | ((with_reducible apply zs_move); (exact rfl); (exact rfl)) | ((with_reducible apply zs_assign); (exact rfl); (exact rfl)) | ((with_reducible apply zs_lss); (exact rfl); (exact rfl); (exact rfl)) | ((with_reducible apply zs_add); (exact rfl); (exact rfl); (exact rfl); (first | (with_reducible assumption) | exact wrap_in64 (by omega) (by omega))) | ((with_reducible apply zs_lenB); (exact rfl); (exact rfl); (exact un_sl rfl)) | ((with_reducible apply zr_cond_f); (exact rfl); (first | assumption | exact rfl)) | ((with_reducible apply zr_skipB))))
    rw [hadd]
    have g5 : decide ((((ps.take (i + 1)).flatMap Prod.fst).length : Int) < 0) = false := decide_eq_false (by omega)
    skip
    exact ⟨m - 1, [(0, .row (partsD ps) 1 tk), (3, .v (.int .i64 (((ps.take (i + 1)).flatMap Prod.fst).length : Nat))), (9, .row (partsD ps) 1 tk), (10, .v (.int .i64 (ps.length : Nat))), (11, .v (.int .i64 ((i + 1) : Nat)))], by omega, ⟨i + 1, by omega, rfl, rfl⟩, zq10⟩
  have g4 : decide ((i : Int) < (ps.length : Nat)) = false := decide_eq_false (by omega)
  (repeat (first | ((with_reducible apply zr_seq)) | ((with_reducible apply zr_region); (try simp only [List.append_eq, List.cons_append, List.nil_append])) | ((with_reducible apply zs_move); (exact rfl); (exact rfl)) | ((with_reducible apply zr_cond_f); (exact rfl); (first | assumption | exact rfl)) | (with_reducible refine zr_exit ?_; simp only [Zthen, Zblock, ↓reduceIte])))
  obtain rfl : i = ps.length := by omega
  rw [List.take_length]
  (try ((with_reducible apply zs_yes); exact rfl; exact rfl; (first | assumption | exact rfl))); refine zo_callU grow_snd Tryd.func57 zq18 rfl rfl rfl rfl (by decide) rfl rfl (Ups.refl _) ?_
  refine ⟨_, rfl, by omega, by omega, fun h0 => ?_, fun h0 id c hid hc => ?_⟩
  · -- nothing
    have hnil : ps.flatMap Prod.fst = [] := List.eq_nil_of_length_eq_zero (by omega)
    (repeat (first | ((with_reducible apply zr_seq)) | ((with_reducible apply zr_region); (try simp only [List.append_eq, List.cons_append, List.nil_append])) | ((with_reducible apply zo_end)) | ((with_reducible apply zs_move); (exact rfl); (exact rfl)) | ((with_reducible apply zs_assign); (exact rfl); (exact rfl)) | ((with_reducible apply zs_len); (exact rfl); (exact rfl); (exact un_sl rfl)) | ((with_reducible apply zr_block))))
    rw [partsD_length]
    refine zr_nil 6 1 rfl fun t ht ht0 => ?_
    refine zr_loopE (fun m env s' => ∃ i t : Nat, m + i = ps.length ∧ env = [(6, .row [] 1 t), (25, .row (partsD ps) 1 tk), (26, .v (.int .i64 (ps.length : Nat))), (27, .v (.int .i64 (i : Nat)))] ∧ s' = s.setT t true ∧ s.T t = false ∧ t ≠ 0) ps.length [(6, .row [] 1 t), (25, .row (partsD ps) 1 tk), (26, .v (.int .i64 (ps.length : Nat))), (27, .v (.int .i64 (0 : Nat)))] zq10 ⟨0, t, by omega, rfl, rfl, ht, ht0⟩ ?_
    rintro m env s' ⟨i, t, hm, rfl, rfl, ht, ht0⟩
    (repeat (first | ((with_reducible apply zr_seq)) | ((with_reducible apply zr_region); (try simp only [List.append_eq, List.cons_append, List.nil_append])) | ((with_reducible apply zo_end)) | ((with_reducible apply zs_lss); (exact rfl); (exact rfl); (exact rfl))))
    by_cases hlt : i < ps.length
    · have g4 : decide ((i : Int) < (ps.length : Nat)) = true := decide_eq_true (by omega)
      (repeat (first | ((with_reducible apply zr_seq)) | ((with_reducible apply zr_region); (try simp only [List.append_eq, List.cons_append, List.nil_append])) | ((with_reducible apply zr_cond_t); (exact rfl); (first | assumption | exact rfl)) | ((with_reducible apply zr_block)) | ((with_reducible apply zr_skip'))))
      (try ((with_reducible apply zs_yes); exact rfl; exact rfl; (first | assumption | exact rfl))); refine zo_pure0 rfl rfl (by decide) (zp_indexAddr rfl zq16 hi22 hk22 rfl rfl (by omega) (by simpa using hlt)) ?_
      rw [Int.toNat_natCast, partsD_getD ps i hlt]
      (try ((with_reducible apply zs_yes); exact rfl; exact rfl; (first | assumption | exact rfl))); refine zo_pure rfl rfl (by decide) (zp_load_ref rfl sh22 rfl rfl) ?_
      have hp : (ps.getD i ([], 0)).1 = [] := by
        have := take_flat ps i hlt
        have hle := take_flat_le ps (i + 1)
        rw [this, List.length_append] at hle
        exact List.eq_nil_of_length_eq_zero (by omega)
      rw [hp]
      (repeat (first | ((with_reducible apply zr_region); (try simp only [List.append_eq, List.cons_append, List.nil_append])) | ((with_reducible apply zo_end)) | ((with_reducible apply zs_move); (exact rfl); (exact rfl)) | ((with_reducible apply zs_assign); (exact rfl); (exact rfl))))
      (try ((with_reducible apply zs_yes); exact rfl; exact rfl; (first | assumption | exact rfl))); refine zo_val rfl rfl (by decide) (zv_append rfl el5 zq16 rfl (by simp) rfl (by simp) fun t2 h2 h20 => ?_)
      rw [St.setT_back ht]
      have ht2 : s.T t2 = false := by
        by_cases h : t2 = t
        · simp [h] at h2
        · simpa [h] using h2
      (repeat (first | ((with_reducible apply zr_region); (try simp only [List.append_eq, List.cons_append, List.nil_append])) | ((with_reducible apply zo_end)) | ((with_reducible apply zo_endB)) | ((with_reducible apply zs_move); (exact rfl); (exact rfl)) | ((with_reducible apply zs_assign); (exact rfl); (exact rfl)) | ((with_reducible apply zs_add); (exact rfl); (exact rfl); (exact rfl); (first | (with_reducible assumption) | exact wrap_in64 (by omega) (by omega)))))
      exact ⟨m - 1, [(6, .row [] 1 t2), (25, .row (partsD ps) 1 tk), (26, .v (.int .i64 (ps.length : Nat))), (27, .v (.int .i64 ((i + 1) : Nat)))], by omega, ⟨i + 1, t2, by omega, rfl, rfl, ht2, h20⟩, zq10⟩
    · have g4 : decide ((i : Int) < (ps.length : Nat)) = false := decide_eq_false (by omega)
      (repeat (first | ((with_reducible apply zr_seq)) | ((with_reducible apply zr_region); (try simp only [List.append_eq, List.cons_append, List.nil_append])) | ((with_reducible apply zo_end)) | ((with_reducible apply zs_move); (exact rfl); (exact rfl)) | ((with_reducible apply zs_assign); (exact rfl); (exact rfl)) | ((with_reducible apply zr_cond_f); (exact rfl); (first | assumption | exact rfl)) | (with_reducible refine zr_exit ?_; simp only [Zthen, Zblock, ↓reduceIte])))
      refine zr_forget s (fun _ _ e => e) (fun q e => by simp [e]) ?_
      refine zr_retZ rfl (resD_row0 rfl (resD_nil _ _ _)) ?_
      rw [hnil] at hK
      exact hK
  · (repeat (first | ((with_reducible apply zr_seq)) | ((with_reducible apply zr_region); (try simp only [List.append_eq, List.cons_append, List.nil_append])) | ((with_reducible apply zo_end)) | ((with_reducible apply zs_move); (exact rfl); (exact rfl)) | ((with_reducible apply zs_assign); (exact rfl); (exact rfl)) | ((with_reducible apply zs_len); (exact rfl); (exact rfl); (exact un_sl rfl)) | ((with_reducible apply zr_block))))
    rw [partsD_length]
    refine zr_loopE (fun m env s' => ∃ i : Nat, ∃ rest : List D, m + i = ps.length ∧ env = [(6, .mrow id 0 ((ps.take i).flatMap Prod.fst).length c), (25, .row (partsD ps) 1 tk), (26, .v (.int .i64 (ps.length : Nat))), (27, .v (.int .i64 (i : Nat)))] ∧ s' = s.setH id (some (bcl ((ps.take i).flatMap Prod.fst) ++ rest)) ∧ ((ps.take i).flatMap Prod.fst).length + rest.length = (ps.flatMap Prod.fst).length) ps.length [(6, .mrow id 0 ((ps.take 0).flatMap Prod.fst).length c), (25, .row (partsD ps) 1 tk), (26, .v (.int .i64 (ps.length : Nat))), (27, .v (.int .i64 (0 : Nat)))] zq10
      ⟨0, _, by omega, rfl, rfl, by simp⟩ ?_
    rintro m env s' ⟨i, rest, hm, rfl, rfl, hrest⟩
    (repeat (first | ((with_reducible apply zr_seq)) | ((with_reducible apply zr_region); (try simp only [List.append_eq, List.cons_append, List.nil_append])) | ((with_reducible apply zo_end)) | ((with_reducible apply zs_lss); (exact rfl); (exact rfl); (exact rfl))))
    by_cases hlt : i < ps.length
    · have g4 : decide ((i : Int) < (ps.length : Nat)) = true := decide_eq_true (by omega)
      (repeat (first | ((with_reducible apply zr_seq)) | ((with_reducible apply zr_region); (try simp only [List.append_eq, List.cons_append, List.nil_append])) | ((with_reducible apply zr_cond_t); (exact rfl); (first | assumption | exact rfl)) | ((with_reducible apply zr_block)) | ((with_reducible apply zr_skip'))))
      (try ((with_reducible apply zs_yes); exact rfl; exact rfl; (first | assumption | exact rfl))); refine zo_pure0 rfl rfl (by decide) (zp_indexAddr rfl zq16 hi22 hk22 rfl rfl (by omega) (by simpa using hlt)) ?_
      rw [Int.toNat_natCast, partsD_getD ps i hlt]
      (try ((with_reducible apply zs_yes); exact rfl; exact rfl; (first | assumption | exact rfl))); refine zo_pure rfl rfl (by decide) (zp_load_ref rfl sh22 rfl rfl) ?_
      have hfl := take_flat ps i hlt
      have hle := take_flat_le ps (i + 1)
      have hfl2 : ((ps.take (i + 1)).flatMap Prod.fst).length = ((ps.take i).flatMap Prod.fst).length + (ps.getD i ([], 0)).1.length := by rw [hfl, List.length_append]
      (repeat (first | ((with_reducible apply zr_region); (try simp only [List.append_eq, List.cons_append, List.nil_append])) | ((with_reducible apply zo_end)) | ((with_reducible apply zs_move); (exact rfl); (exact rfl)) | ((with_reducible apply zs_assign); (exact rfl); (exact rfl))))
      (try ((with_reducible apply zs_yes); exact rfl; exact rfl; (first | assumption | exact rfl))); refine zo_val rfl rfl (by decide) (zv_append_room (cs := bcl ((ps.take i).flatMap Prod.fst) ++ rest) rfl el5 zq16 rfl (by simp) (by simp only [List.length_append, bcl_length, bytesD_length, Nat.mul_one]; omega) rfl (by simp only [bytesD_length]; omega) ?_)
      rw [St.setH_setH]
      (repeat (first | ((with_reducible apply zr_region); (try simp only [List.append_eq, List.cons_append, List.nil_append])) | ((with_reducible apply zo_end)) | ((with_reducible apply zo_endB)) | ((with_reducible apply zs_move); (exact rfl); (exact rfl)) | ((with_reducible apply zs_assign); (exact rfl); (exact rfl)) | ((with_reducible apply zs_add); (exact rfl); (exact rfl); (exact rfl); (first | (with_reducible assumption) | exact wrap_in64 (by omega) (by omega)))))
      have ecs : (bcl ((ps.take i).flatMap Prod.fst) ++ rest).take (((ps.take i).flatMap Prod.fst).length * 1) ++ (bytesD (ps.getD i ([], 0)).1).flatten ++ (bcl ((ps.take i).flatMap Prod.fst) ++ rest).drop ((((ps.take i).flatMap Prod.fst).length + (bytesD (ps.getD i ([], 0)).1).length) * 1)
          = bcl ((ps.take (i + 1)).flatMap Prod.fst) ++ rest.drop (ps.getD i ([], 0)).1.length := by
        rw [hfl, bcl_append, bcl_flat, Nat.mul_one, Nat.mul_one, List.take_append_of_le_length (by simp), List.take_of_length_le (by simp), List.drop_append, List.drop_eq_nil_of_le (by simp), List.nil_append]
        simp
      rw [ecs]
      refine ⟨m - 1, [(6, .mrow id 0 ((ps.take (i + 1)).flatMap Prod.fst).length c), (25, .row (partsD ps) 1 tk), (26, .v (.int .i64 (ps.length : Nat))), (27, .v (.int .i64 ((i + 1) : Nat)))], by omega, ⟨i + 1, _, by omega, rfl, rfl, by rw [List.length_drop]; omega⟩, sub_cons ?_ zq10⟩
      rw [hfl2, ← bytesD_length (ps.getD i ([], 0)).1]; rfl
    · have g4 : decide ((i : Int) < (ps.length : Nat)) = false := decide_eq_false (by omega)
      obtain rfl : i = ps.length := by omega
      rw [List.take_length] at hrest ⊢
      have hr0 : rest = [] := List.eq_nil_of_length_eq_zero (by omega)
      subst hr0
      refine zr_freeze (id := id) [(6, .row (bytesD (ps.flatMap Prod.fst)) 1 0), (28, .v (.bool (decide ((ps.length : Int) < (ps.length : Nat)))))] (by simp; rfl)
        (fz_cons rfl (.mrow 0 _ c 1 (bytesD (ps.flatMap Prod.fst)) (by simp) (bytesD_ones _) (by rw [bcl_flat]; simp [List.take_of_length_le])) (fz_cons rfl (.same _) fz_nil)) ?_
      rw [St.setH_setH, St.setH_none hid.1]
      (repeat (first | ((with_reducible apply zr_seq)) | ((with_reducible apply zr_region); (try simp only [List.append_eq, List.cons_append, List.nil_append])) | ((with_reducible apply zo_end)) | ((with_reducible apply zs_move); (exact rfl); (exact rfl)) | ((with_reducible apply zs_assign); (exact rfl); (exact rfl)) | ((with_reducible apply zr_cond_f); (exact rfl); (first | assumption | exact rfl)) | (with_reducible refine zr_exit ?_; simp only [Zthen, Zblock, ↓reduceIte])))
      refine zr_retZ rfl (resD_tmp rfl (resD_nil _ _ _)) ?_
      exact hK
end Go.Proofs.ZtLe
namespace Go.Proofs.ZtLe
open Go.RowKit Go.Proofs Go.Proofs.Zm
/-! ### functions that may be called -/
theorem cl_6 : Callable Tryd.prog 6 := callable zq18
theorem cl_7 : Callable Tryd.prog 7 := callable zq18
theorem cl_8 : Callable Tryd.prog 8 := callable zq18
theorem cl_9 : Callable Tryd.prog 9 := callable zq18
theorem cl_10 : Callable Tryd.prog 10 := callable zq18
theorem cl_11 : Callable Tryd.prog 11 := callable zq18
theorem cl_12 : Callable Tryd.prog 12 := callable zq18
theorem cl_13 : Callable Tryd.prog 13 := callable zq18
theorem cl_14 : Callable Tryd.prog 14 := callable zq18
theorem cl_15 : Callable Tryd.prog 15 := callable zq18
theorem cl_16 : Callable Tryd.prog 16 := callable zq18
theorem cl_23 : Callable Tryd.prog 23 := callable zq18
theorem cl_27 : Callable Tryd.prog 27 := callable zq18
theorem cl_28 : Callable Tryd.prog 28 := callable zq18
theorem cl_29 : Callable Tryd.prog 29 := callable zq18
theorem cl_30 : Callable Tryd.prog 30 := callable zq18
theorem cl_31 : Callable Tryd.prog 31 := callable zq18
theorem cl_32 : Callable Tryd.prog 32 := callable zq18
theorem cl_33 : Callable Tryd.prog 33 := callable zq18
theorem cl_34 : Callable Tryd.prog 34 := callable zq18
theorem cl_36 : Callable Tryd.prog 36 := callable zq18
theorem cl_37 : Callable Tryd.prog 37 := callable zq18
theorem cl_43 : Callable Tryd.prog 43 := callable zq18
theorem cl_45 : Callable Tryd.prog 45 := callable zq18
theorem cl_46 : Callable Tryd.prog 46 := callable zq18
theorem cl_47 : Callable Tryd.prog 47 := callable zq18
theorem cl_48 : Callable Tryd.prog 48 := callable zq18
theorem cl_49 : Callable Tryd.prog 49 := callable zq18
theorem cl_53 : Callable Tryd.prog 53 := callable zq18
theorem cl_58 : Callable Tryd.prog 58 := callable zq18
theorem cl_59 : Callable Tryd.prog 59 := callable zq18
theorem cl_61 : Callable Tryd.prog 61 := callable zq18
theorem cl_65 : Callable Tryd.prog 65 := callable zq18
end Go.Proofs.ZtLe
namespace Go.Proofs.ZtLe
open Go.RowKit Go.Proofs Go.Proofs.Zm
set_option linter.unusedVariables false
set_option linter.unusedSimpArgs false
set_option maxHeartbeats 20000000
set_option maxRecDepth 100000
attribute [local irreducible] ZWp ZOps ZPure ZPure0 ZVal ZOp SoundF
theorem el_U8 : ElemOk Tryd.prog 5 1 1 [.v (.int .u8 0)] := el_of rfl
/-! ### values -/
abbrev MsgV := Int × Bs × Bs
def msgD (m : MsgV) : List D := [.v (.int .i64 m.1), .row (bytesD m.2.1) 1 0, .row (bytesD m.2.2) 1 0]
def msgR (l : List MsgV) : List (List D) := l.map msgD
abbrev PairV := Bs × Bs
def pairD (p : PairV) : List D := [.row (bytesD p.1) 1 0, .row (bytesD p.2) 1 0]
def pairR (l : List PairV) : List (List D) := l.map pairD
structure NodeV where
  leaf : Bool
  keys : List Bs
  vals : List Bs
  kids : List Int
  msgs : List MsgV
deriving DecidableEq
def nodeD (n : NodeV) : List D := [.v (.bool n.leaf), .row (rowR n.keys) 1 0, .row (rowR n.vals) 1 0, .row (intR n.kids) 1 0, .row (msgR n.msgs) 3 0]
def noNode : NodeV := ⟨false, [], [], [], []⟩
@[simp] theorem msgR_length (l : List MsgV) : (msgR l).length = l.length := by simp [msgR]
@[simp] theorem pairR_length (l : List PairV) : (pairR l).length = l.length := by simp [pairR]
/-! ### bytes in order -/
/-! ### rows, compared -/
theorem sameI_pf {a b : List Int} {ta tb : Nat} (h : a.length ≤ 4611686018427387904) : PureF Tryd.prog 23 [.row (intR a) 1 ta, .row (intR b) 1 tb] (.v (.bool (decide (a = b)))) := by
  refine pure_of Tryd.func23 rfl Tryd.results23 (by rw [Tryd.ntmps23]; simp) (fun w0 st K hK => ?_); rw [Tryd.ntmps23]
  have hra : (intR a).length = a.length := intR_length a
  have hrb : (intR b).length = b.length := intR_length b
  (repeat (first | ((with_reducible apply zr_seq)) | ((with_reducible apply zr_region); (try simp only [List.append_eq, List.cons_append, List.nil_append])) | ((with_reducible apply zo_end)) | ((with_reducible apply zs_move); (exact rfl); (exact rfl)) | ((with_reducible apply zs_assign); (exact rfl); (exact rfl)) | ((with_reducible apply zs_neq); (exact rfl); (exact rfl); (exact rfl)) | ((with_reducible apply zs_len); (exact rfl); (exact rfl); (exact un_sl rfl))))
  (first | refine zr_cond rfl (fun h1 => ?_) (fun h1 => ?_) | refine zs_split rfl rfl (fun h1 => ?_) (fun h1 => ?_)) <;> have h1' := h1 <;> (try simp only [decide_eq_true_eq, decide_eq_false_iff_not, Bool.and_eq_true, Bool.or_eq_true, Bool.and_eq_false_iff, Bool.or_eq_false_iff, Bool.not_eq_true', Bool.not_eq_false', Bool.not_eq_true, Bool.not_eq_false, Int.not_le, Int.not_lt, Classical.not_not, Decidable.not_not, ne_eq, beq_iff_eq, bne_iff_ne] at h1')
  · rw [show decide (a = b) = false from decide_eq_false fun e => by rw [e] at h1'; exact h1' rfl] at hK
    (repeat (first | ((with_reducible apply zr_seq)) | ((with_reducible apply zr_region); (try simp only [List.append_eq, List.cons_append, List.nil_append])) | ((with_reducible apply zo_end)) | ((with_reducible apply zs_assign); (exact rfl); (exact rfl)) | ((with_reducible apply zr_retZ); (exact rfl); (repeat (first | exact resD_nil _ _ _ | ((with_reducible apply resD_tmp); (exact rfl)) | ((with_reducible apply resD_cell_agg); (exact rfl); (exact sh_of rfl); (first | assumption | exact St.setH_self _ _ _); (exact rfl)) | ((with_reducible apply resD_cell); (exact rfl); (exact sh_of rfl); (first | assumption | exact St.setH_self _ _ _); (exact rfl)))); (simp only [resOf]))))
    exact KE.mk _ (Ext.refl _) hK
  (repeat (first | ((with_reducible apply zr_seq)) | ((with_reducible apply zr_region); (try simp only [List.append_eq, List.cons_append, List.nil_append])) | ((with_reducible apply zo_end)) | ((with_reducible apply zs_assign); (exact rfl); (exact rfl)) | ((with_reducible apply zr_block)) | ((with_reducible apply zr_skip'))))
  refine zr_loopK [0, 1] (fun m e s => ∃ i : Nat, m + i = a.length ∧ e = [(5, .v (.int .i64 (i : Nat)))] ∧ a.take i = b.take i ∧ s = st) a.length _ zq8 ⟨0, by simp, rfl, rfl, rfl⟩ zq10 ?_
  rintro m e s ⟨i, hm, rfl, htk, rfl⟩
  (repeat (first | ((with_reducible apply zr_seq)) | ((with_reducible apply zr_region); (try simp only [List.append_eq, List.cons_append, List.nil_append])) | ((with_reducible apply zo_end)) | ((with_reducible apply zs_move); (exact rfl); (exact rfl)) | ((with_reducible apply zs_lss); (exact rfl); (exact rfl); (exact rfl)) | ((with_reducible apply zs_len); (exact rfl); (exact rfl); (exact un_sl rfl))))
  (first | refine zr_cond rfl (fun h2 => ?_) (fun h2 => ?_) | refine zs_split rfl rfl (fun h2 => ?_) (fun h2 => ?_)) <;> have h2' := h2 <;> (try simp only [decide_eq_true_eq, decide_eq_false_iff_not, Bool.and_eq_true, Bool.or_eq_true, Bool.and_eq_false_iff, Bool.or_eq_false_iff, Bool.not_eq_true', Bool.not_eq_false', Bool.not_eq_true, Bool.not_eq_false, Int.not_le, Int.not_lt, Classical.not_not, Decidable.not_not, ne_eq, beq_iff_eq, bne_iff_ne] at h2')
  · obtain ⟨ca, ha1, ha2, _, hca⟩ := eltI (l := a) (i := i) (by omega)
    obtain ⟨cb, hb1, hb2, _, hcb⟩ := eltI (l := b) (i := i) (by omega)
    have hsu := take_succ_eq ha1 hb1 htk
    (repeat (first | ((with_reducible apply zr_seq)) | ((with_reducible apply zr_block)) | ((with_reducible apply zr_skip'))))
    refine za_begin (m := 9) zq18 rfl ?_
    refine za_take (i := 0) rfl zq18 zq18 zq18 zq12 rfl rfl (ZPure0.pure (zp_move rfl rfl)) ?_
    refine za_take (i := 1) rfl zq18 zq18 zq18 zq12 rfl rfl (ZPure0.pure (zp_move rfl rfl)) ?_
    refine za_take (i := 2) rfl zq18 zq18 zq18 zq12 rfl rfl zq1 ?_
    refine za_take (i := 3) rfl zq18 zq18 zq18 zq12 rfl rfl zq11 ?_
    refine za_take (i := 4) rfl zq18 zq18 zq18 zq12 rfl rfl (ZPure0.pure (zp_move rfl rfl)) ?_
    refine za_take (i := 5) rfl zq18 zq18 zq18 zq12 rfl rfl (ZPure0.pure (zp_move rfl rfl)) ?_
    refine za_take (i := 6) rfl zq18 zq18 zq18 zq12 rfl rfl zq1 ?_
    refine za_take (i := 7) rfl zq18 zq18 zq18 zq12 rfl rfl zq11 ?_
    refine za_take (i := 8) rfl zq18 zq18 zq18 zq12 rfl rfl (ZPure0.pure (zp_neq rfl rfl rfl)) ?_
    refine za_end zq18 ?_
    skip
    (first | refine zr_cond rfl (fun h3 => ?_) (fun h3 => ?_) | refine zs_split rfl rfl (fun h3 => ?_) (fun h3 => ?_)) <;> have h3' := h3 <;> (try simp only [decide_eq_true_eq, decide_eq_false_iff_not, Bool.and_eq_true, Bool.or_eq_true, Bool.and_eq_false_iff, Bool.or_eq_false_iff, Bool.not_eq_true', Bool.not_eq_false', Bool.not_eq_true, Bool.not_eq_false, Int.not_le, Int.not_lt, Classical.not_not, Decidable.not_not, ne_eq, beq_iff_eq, bne_iff_ne] at h3')
    · rw [show decide (a = b) = false from decide_eq_false (ne_of_elt ha1 hb1 h3')] at hK
      (repeat (first | ((with_reducible apply zr_seq)) | ((with_reducible apply zr_region); (try simp only [List.append_eq, List.cons_append, List.nil_append])) | ((with_reducible apply zo_end)) | ((with_reducible apply zs_assign); (exact rfl); (exact rfl)) | ((with_reducible apply zr_retZ); (exact rfl); (repeat (first | exact resD_nil _ _ _ | ((with_reducible apply resD_tmp); (exact rfl)) | ((with_reducible apply resD_cell_agg); (exact rfl); (exact sh_of rfl); (first | assumption | exact St.setH_self _ _ _); (exact rfl)) | ((with_reducible apply resD_cell); (exact rfl); (exact sh_of rfl); (first | assumption | exact St.setH_self _ _ _); (exact rfl)))); (simp only [resOf]))))
      exact KE.mk _ (Ext.refl _) hK
    · (repeat (first | ((with_reducible apply zr_region); (try simp only [List.append_eq, List.cons_append, List.nil_append])) | ((with_reducible apply zo_end)) | ((with_reducible apply zs_move); (exact rfl); (exact rfl)) | ((with_reducible apply zs_assign); (exact rfl); (exact rfl)) | ((with_reducible apply zs_add); (exact rfl); (exact rfl); (exact rfl); (first | (with_reducible assumption) | exact wrap_in64 (by omega) (by omega))) | ((with_reducible apply zr_skipB))))
      exact ⟨m - 1, _, by omega, ⟨i + 1, by omega, rfl, hsu.2 h3', rfl⟩, zq10, zq10⟩
  · rw [show decide (a = b) = true from decide_eq_true (eq_of_takes htk (by omega) (by omega))] at hK
    (repeat (first | ((with_reducible apply zr_seq)) | ((with_reducible apply zr_region); (try simp only [List.append_eq, List.cons_append, List.nil_append])) | ((with_reducible apply zo_end)) | ((with_reducible apply zs_assign); (exact rfl); (exact rfl)) | (with_reducible refine zr_exit ?_; simp only [Zthen, Zblock, ↓reduceIte]) | ((with_reducible apply zr_retZ); (exact rfl); (repeat (first | exact resD_nil _ _ _ | ((with_reducible apply resD_tmp); (exact rfl)) | ((with_reducible apply resD_cell_agg); (exact rfl); (exact sh_of rfl); (first | assumption | exact St.setH_self _ _ _); (exact rfl)) | ((with_reducible apply resD_cell); (exact rfl); (exact sh_of rfl); (first | assumption | exact St.setH_self _ _ _); (exact rfl)))); (simp only [resOf]))))
    exact KE.mk _ (Ext.refl _) hK
/-- A node whose lists are not beyond all bounds. -/
def NB (n : NodeV) : Prop := n.keys.length ≤ 4611686018427387904 ∧ n.vals.length ≤ 4611686018427387904 ∧ n.kids.length ≤ 4611686018427387904 ∧ n.msgs.length ≤ 4611686018427387904
end Go.Proofs.ZtLe
namespace Go.Proofs.ZtLe
open Go.RowKit Go.Proofs Go.Proofs.Zm
set_option linter.unusedVariables false
set_option linter.unusedSimpArgs false
set_option maxHeartbeats 20000000
set_option maxRecDepth 100000
attribute [local irreducible] ZWp ZOps ZPure ZPure0 ZVal ZOp SoundF

/-! ### slices.Clone -/
theorem clone_own : SoundF Tryd.prog 43 fun args st K => ∃ xs, (∃ (l : List UInt8) (tk : Nat), args = [.row (bytesD l) 1 tk] ∧ l.length ≤ 140737488355328 ∧ xs = bytesD l) ∧ ownR st 1 xs K := by
  refine sound_ofA Tryd.func43 rfl Tryd.results43 ?_
  rintro w0 args st K ⟨xs, ⟨l, tk, rfl, hl, rfl⟩, hK⟩
  rw [Tryd.ntmps43]; refine ⟨by simp, ?_⟩
  (repeat (first | ((with_reducible apply zr_seq)) | ((with_reducible apply zr_region); (try simp only [List.append_eq, List.cons_append, List.nil_append])) | ((with_reducible apply zo_end)) | ((with_reducible apply zs_move); (exact rfl); (exact rfl)) | ((with_reducible apply zs_assign); (exact rfl); (exact rfl))))
  refine zs_rowEqNil rfl rfl zq16 fun b hb => ?_
  (repeat (first | ((with_reducible apply zo_end))))
  (first | refine zr_cond rfl (fun h => ?_) (fun h => ?_) | refine zs_split rfl rfl (fun h => ?_) (fun h => ?_)) <;> have h' := h <;> (try simp only [decide_eq_true_eq, decide_eq_false_iff_not, Bool.and_eq_true, Bool.or_eq_true, Bool.and_eq_false_iff, Bool.or_eq_false_iff, Bool.not_eq_true', Bool.not_eq_false', Bool.not_eq_true, Bool.not_eq_false, Int.not_le, Int.not_lt, Classical.not_not, Decidable.not_not, ne_eq, beq_iff_eq, bne_iff_ne] at h')
  · have hl0 := hb h
    (repeat (first | ((with_reducible apply zr_seq)) | ((with_reducible apply zr_region); (try simp only [List.append_eq, List.cons_append, List.nil_append])) | ((with_reducible apply zo_end)) | ((with_reducible apply zs_assign); (exact rfl); (exact rfl)) | ((with_reducible apply zr_retZ); (exact rfl); (repeat (first | exact resD_nil _ _ _ | ((with_reducible apply resD_tmp); (exact rfl)) | ((with_reducible apply resD_cell_agg); (exact rfl); (exact sh_of rfl); (first | assumption | exact St.setH_self _ _ _); (exact rfl)) | ((with_reducible apply resD_cell); (exact rfl); (exact sh_of rfl); (first | assumption | exact St.setH_self _ _ _); (exact rfl)))); (simp only [resOf]))))
    rw [hl0] at hK
    exact KE.mk st (Ext.refl _) (hK none 0 [] st ((Sep.nil st).addNone []) (GRow.empty 1))
  · (repeat (first | ((with_reducible apply zr_seq)) | ((with_reducible apply zr_region); (try simp only [List.append_eq, List.cons_append, List.nil_append])) | ((with_reducible apply zr_skip'))))
    (try ((with_reducible apply zs_yes); exact rfl; exact rfl; (first | assumption | exact rfl))); refine zo_val rfl rfl (by decide) (zv_buildSlice_own (xs := []) rfl rfl el_U8 zq16 rfl (by simp) (by decide) fun id hid => ?_)
    have hS := (Sep.nil st).alloc hid ((([] : List D).map cellsD).flatten)
    (repeat (first | ((with_reducible apply zs_move); (exact rfl); (exact rfl))))
    (try ((with_reducible apply zs_yes); exact rfl; exact rfl; (first | assumption | exact rfl))); refine zo_val rfl rfl (by decide) (zv_sapp (i := 0) (ob := some id) (m := 0) (c := 0) (full := ((([] : List D).map cellsD).flatten)) (cells := []) rfl el_U8 (by simp [oneD, Value.oneCell']) zq16 rfl hS rfl ⟨rfl, Nat.le_refl _, fun e => (by cases e), rfl⟩ rfl (by simp; omega) fun o' c' full' st' hS' hg' => ?_)
    rw [Nat.zero_add] at hg' ⊢
    rw [List.nil_append] at hg'
    (repeat (first | ((with_reducible apply zo_end)) | ((with_reducible apply zs_assign); (exact rfl); (exact rfl)) | ((with_reducible apply zr_retZ); (exact rfl); (repeat (first | exact resD_nil _ _ _ | ((with_reducible apply resD_tmp); (exact rfl)) | ((with_reducible apply resD_cell_agg); (exact rfl); (exact sh_of rfl); (first | assumption | exact St.setH_self _ _ _); (exact rfl)) | ((with_reducible apply resD_cell); (exact rfl); (exact sh_of rfl); (first | assumption | exact St.setH_self _ _ _); (exact rfl)))); (simp only [resOf]))))
    exact KE.mk st' (Ext.refl _) (hK o' c' full' st' hS' hg')
theorem clone_pf {l : Bs} {tk : Nat} (h : l.length ≤ 140737488355328) : PureF Tryd.prog 43 [.row (bytesD l) 1 tk] (.row (bytesD l) 1 0) :=
  PureF.of (SoundF.frozen (by decide) clone_own) fun st K hK => ⟨_, ⟨l, tk, rfl, h, rfl⟩, bytesD_one l, hK⟩

/-! ### places among keys -/
end Go.Proofs.ZtLe
namespace Go.Proofs.ZtLe
open Go.RowKit Go.Proofs Go.Proofs.Zm
set_option linter.unusedVariables false
set_option linter.unusedSimpArgs false

/-! ### powers of two -/
def lvD (n : Int) : Nat := n.toNat.log2
def leavesB (n : Int) : Bool := decide (1 ≤ n) && decide (n ≤ 65536) && decide (n = 2 ^ lvD n)
theorem pow_chk : ((List.range 65536).all fun m => ((m + 1) &&& m == 0) == (m + 1 == 2 ^ (m + 1).log2)) = true := by kernel_rfl
theorem and_pow {m : Nat} (h : m < 65536) : decide ((((m + 1) &&& m : Nat) : Int) = 0) = decide (((m + 1 : Nat) : Int) = 2 ^ lvD ((m + 1 : Nat) : Int)) := by
  have h1 := List.all_eq_true.1 pow_chk m (List.mem_range.2 h)
  have e : ∀ k : Nat, ((2 ^ k : Nat) : Int) = 2 ^ k := fun k => by simp
  unfold lvD
  rw [Int.toNat_natCast, ← e]
  simp only [beq_iff_eq] at h1
  by_cases h2 : (m + 1) &&& m = 0
  · rw [decide_eq_true (by omega)]
    have : (m + 1 == 2 ^ (m + 1).log2) = true := by rw [← h1]; simp [h2]
    rw [decide_eq_true (by have := eq_of_beq this; omega)]
  · rw [decide_eq_false (by omega)]
    have : (m + 1 == 2 ^ (m + 1).log2) = false := by rw [← h1]; simp [h2]
    rw [decide_eq_false (fun q => by have := (beq_eq_false_iff_ne.1 this); omega)]
theorem band_small {a b : Nat} (ha : a < 2 ^ 63) (hb : b < 2 ^ 63) : IntKind.i64.wrap ((BitVec.ofInt IntKind.i64.bits (a : Int) &&& BitVec.ofInt IntKind.i64.bits (b : Int)).toNat : Int) = ((a &&& b : Nat) : Int) := by
  have h1 : a &&& b ≤ a := Nat.and_le_left
  rw [BitVec.ofInt_natCast, BitVec.ofInt_natCast, BitVec.toNat_and, BitVec.toNat_ofNat, BitVec.toNat_ofNat, Nat.mod_eq_of_lt (Nat.lt_trans ha (by decide)), Nat.mod_eq_of_lt (Nat.lt_trans hb (by decide))]
  exact wrap_in64 (by omega) (by omega)
end Go.Proofs.ZtLe
namespace Go.Proofs.ZtLe
open Go.RowKit Go.Proofs Go.Proofs.Zm
set_option linter.unusedVariables false
set_option linter.unusedSimpArgs false
set_option maxHeartbeats 20000000
set_option maxRecDepth 100000
attribute [local irreducible] ZWp ZOps ZPure ZPure0 ZVal ZOp SoundF
theorem el_Cell : ElemOk Tryd.prog 29 3 40 [.v (.int .i64 0), .v (.int .i64 0), .v (.slice none 0 0)] := el_of rfl
/-! ### slices.Clone of bytes -/
def cloneSpec : ZSpec := fun args st K => ∃ (l : List UInt8) (tk : Nat), args = [.row (bytesD l) 1 tk] ∧ l.length ≤ 140737488355328 ∧ frzR st 1 (bytesD l) K
/-! ### buck.may, Long, Ok -/
def mayB (z size : Int) : Bool := decide (0 ≤ z) && decide (z ≤ 16) && decide (0 ≤ size) && decide (size ≤ 60000)
def maySpec : ZSpec := fun args st K => ∃ (z size : Int), args = [.v (.int .i64 z), .v (.int .i64 size)] ∧ K (.v (.bool (mayB z size))) st
def longSpec : ZSpec := fun args st K => ∃ (z size : Int), args = [.v (.int .i64 z), .v (.int .i64 size)] ∧ 0 ≤ z ∧ z ≤ 10000 ∧ 0 ≤ size ∧ size ≤ 100000 ∧ K (.v (.int .i64 (z * (8 + size)))) st
theorem long_snd : SoundF Tryd.prog 45 longSpec := by
  refine sound_ofA Tryd.func45 rfl Tryd.results45 ?_
  rintro w0 args st K ⟨z, size, rfl, h1, h2, h3, h4, hK⟩
  rw [Tryd.ntmps45]; refine ⟨by simp, ?_⟩
  have h5 : 0 ≤ z * (8 + size) := Int.mul_nonneg h1 (by omega)
  have h6 : z * (8 + size) ≤ 10000 * 100008 := Int.mul_le_mul h2 (by omega) (by omega) (by omega)
  (repeat (first | ((with_reducible apply zr_seq)) | ((with_reducible apply zr_region); (try simp only [List.append_eq, List.cons_append, List.nil_append])) | ((with_reducible apply zo_end)) | ((with_reducible apply zs_move); (exact rfl); (exact rfl)) | ((with_reducible apply zs_assign); (exact rfl); (exact rfl)) | ((with_reducible apply zs_add); (exact rfl); (exact rfl); (exact rfl); (first | (with_reducible assumption) | exact wrap_in64 (by omega) (by omega))) | ((with_reducible apply zs_mul); (exact rfl); (exact rfl); (exact rfl); (first | (with_reducible assumption) | exact wrap_in64 (by omega) (by omega))) | ((with_reducible apply zr_retZ); (exact rfl); (repeat (first | exact resD_nil _ _ _ | ((with_reducible apply resD_tmp); (exact rfl)) | ((with_reducible apply resD_cell_agg); (exact rfl); (exact sh_of rfl); (first | assumption | exact St.setH_self _ _ _); (exact rfl)) | ((with_reducible apply resD_cell); (exact rfl); (exact sh_of rfl); (first | assumption | exact St.setH_self _ _ _); (exact rfl)))); (simp only [resOf]))))
  exact KE.mk st (Ext.refl _) hK

/-- A cell: its ID, its leaf, its data. -/
abbrev CellV := Int × Int × List UInt8
def cellD (c : CellV) : List D := [.v (.int .i64 c.1), .v (.int .i64 c.2.1), .row (bytesD c.2.2) 1 0]
def okC (c : CellV) (size : Int) : Bool := decide (1 ≤ c.1) && decide (c.1 ≤ 2147483647) && decide (0 ≤ c.2.1) && decide (c.2.1 ≤ 2147483647) && decide ((c.2.2.length : Int) = size)
def cokSpec : ZSpec := fun args st K => ∃ (c : CellV) (size : Int), args = [.agg (cellD c), .v (.int .i64 size)] ∧ K (.v (.bool (okC c size))) st
theorem cok_snd : SoundF Tryd.prog 27 cokSpec := by
  refine sound_ofA Tryd.func27 rfl Tryd.results27 ?_
  rintro w0 args st K ⟨c, size, rfl, hK⟩
  rw [Tryd.ntmps27]; refine ⟨by simp, ?_⟩
  (repeat (first | ((with_reducible apply zr_seq)) | ((with_reducible apply zr_region); (try simp only [List.append_eq, List.cons_append, List.nil_append]))))
  (try ((with_reducible apply zs_yes); exact rfl; exact rfl; (first | assumption | exact rfl))); refine zo_val rfl rfl (by decide) (zv_boxRef rfl rfl ?_)
  unfold cellD
  (repeat (first | ((with_reducible apply zr_seq)) | ((with_reducible apply zr_region); (try simp only [List.append_eq, List.cons_append, List.nil_append])) | ((with_reducible apply zo_end)) | ((with_reducible apply zs_move); (exact rfl); (exact rfl)) | ((with_reducible apply zs_assign); (exact rfl); (exact rfl)) | ((with_reducible apply zs_geq); (exact rfl); (exact rfl); (exact rfl)) | ((with_reducible apply zs_field_ref); (exact rfl); (exact rfl); (exact fld_of rfl)) | ((with_reducible apply zs_load_ref); (exact rfl); (exact rfl); (exact sh_of rfl); (exact rfl)) | ((with_reducible apply zs_and); (exact rfl); (exact rfl); (intro hp_; first | exact congrArg some (gd_t hp_) | exact rfl); (exact rfl)) | ((with_reducible apply zs_g_move); (exact rfl); (first | exact GC.t rfl rfl | exact GC.f rfl rfl | exact GC.gt rfl rfl | exact GC.gf rfl rfl); (exact rfl); (intro hc_; first | exact congrArg some (gd_t hc_) | exact congrArg some (gd_t (band_l hc_)) | exact congrArg some (gd_t (band_l (band_l hc_))) | exact rfl)) | ((with_reducible apply zs_g_leq); (exact rfl); (first | exact GC.t rfl rfl | exact GC.f rfl rfl | exact GC.gt rfl rfl | exact GC.gf rfl rfl); (exact rfl); (intro hc_; first | exact congrArg some (gd_t hc_) | exact congrArg some (gd_t (band_l hc_)) | exact congrArg some (gd_t (band_l (band_l hc_))) | exact rfl); (intro hc_; first | exact congrArg some (gd_t hc_) | exact congrArg some (gd_t (band_l hc_)) | exact congrArg some (gd_t (band_l (band_l hc_))) | exact rfl)) | ((with_reducible apply zs_g_geq); (exact rfl); (first | exact GC.t rfl rfl | exact GC.f rfl rfl | exact GC.gt rfl rfl | exact GC.gf rfl rfl); (exact rfl); (intro hc_; first | exact congrArg some (gd_t hc_) | exact congrArg some (gd_t (band_l hc_)) | exact congrArg some (gd_t (band_l (band_l hc_))) | exact rfl); (intro hc_; first | exact congrArg some (gd_t hc_) | exact congrArg some (gd_t (band_l hc_)) | exact congrArg some (gd_t (band_l (band_l hc_))) | exact rfl)) | ((with_reducible apply zs_g_eql); (exact rfl); (first | exact GC.t rfl rfl | exact GC.f rfl rfl | exact GC.gt rfl rfl | exact GC.gf rfl rfl); (exact rfl); (intro hc_; first | exact congrArg some (gd_t hc_) | exact congrArg some (gd_t (band_l hc_)) | exact congrArg some (gd_t (band_l (band_l hc_))) | exact rfl); (intro hc_; first | exact congrArg some (gd_t hc_) | exact congrArg some (gd_t (band_l hc_)) | exact congrArg some (gd_t (band_l (band_l hc_))) | exact rfl)) | ((with_reducible apply zs_g_lenB); (exact rfl); (first | exact GC.t rfl rfl | exact GC.f rfl rfl | exact GC.gt rfl rfl | exact GC.gf rfl rfl); (exact rfl); (exact un_sl rfl); (intro hc_; first | exact congrArg some (gd_t hc_) | exact congrArg some (gd_t (band_l hc_)) | exact congrArg some (gd_t (band_l (band_l hc_))) | exact rfl)) | ((with_reducible apply zs_g_field_ref); (exact rfl); (first | exact GC.t rfl rfl | exact GC.f rfl rfl | exact GC.gt rfl rfl | exact GC.gf rfl rfl); (exact rfl); (intro hc_; first | exact congrArg some (gd_t hc_) | exact congrArg some (gd_t (band_l hc_)) | exact congrArg some (gd_t (band_l (band_l hc_))) | exact rfl); (intro _; exact fld_of rfl)) | ((with_reducible apply zs_g_load_ref); (exact rfl); (first | exact GC.t rfl rfl | exact GC.f rfl rfl | exact GC.gt rfl rfl | exact GC.gf rfl rfl); (exact rfl); (intro hc_; first | exact congrArg some (gd_t hc_) | exact congrArg some (gd_t (band_l hc_)) | exact congrArg some (gd_t (band_l (band_l hc_))) | exact rfl); (intro _; exact sh_of rfl); (intro _; exact rfl)) | ((with_reducible apply zr_retZ); (exact rfl); (repeat (first | exact resD_nil _ _ _ | ((with_reducible apply resD_tmp); (exact rfl)) | ((with_reducible apply resD_cell_agg); (exact rfl); (exact sh_of rfl); (first | assumption | exact St.setH_self _ _ _); (exact rfl)) | ((with_reducible apply resD_cell); (exact rfl); (exact sh_of rfl); (first | assumption | exact St.setH_self _ _ _); (exact rfl)))); (simp only [resOf]))))
  exact KE.mk st (Ext.refl _) hK
end Go.Proofs.ZtLe
namespace Go.Proofs.ZtLe
open Go.RowKit Go.Proofs Go.Proofs.Zm
set_option linter.unusedVariables false
set_option linter.unusedSimpArgs false

/-! ### numbers in bytes -/
theorem byteval (n : Int) : ((UInt8.ofNat (n % 256).toNat).toNat : Int) = n % 256 := by simp; omega
theorem num_append (l m : List UInt8) : num (l ++ m) = num l + 256 ^ l.length * num m := by
  induction l with
  | nil => simp [num]
  | cons b l ih => simp only [List.cons_append, num, ih, List.length_cons, Int.pow_succ, Int.mul_add, Int.add_assoc, Int.mul_comm (256 ^ l.length) 256, Int.mul_assoc]
theorem get_short (l : List UInt8) (h : l.length ≤ 8) : get l = num l := by unfold get; rw [List.take_of_length_le h]
theorem putB_len (n k : Int) (h0 : 0 ≤ k) (h1 : k ≤ 8) : (putB n k).length = k.toNat := by unfold putB; rw [if_pos ⟨h0, h1⟩, put_length]
end Go.Proofs.ZtLe
namespace Go.Proofs.ZtLe
open Go.RowKit Go.Proofs Go.Proofs.Zm
set_option linter.unusedVariables false
set_option linter.unusedSimpArgs false
set_option maxHeartbeats 20000000
set_option maxRecDepth 100000
attribute [local irreducible] ZWp ZOps ZPure ZPure0 ZVal ZOp SoundF

/-! ### buck.Bytes, Of -/
def bytesC (c : CellV) : List UInt8 := putB c.1 4 ++ putB c.2.1 4 ++ c.2.2
def ofB (b : List UInt8) : CellV := (get (b.take 4), get ((b.take 8).drop 4), b.drop 8)
theorem pb4 (n : Int) : (putB n 4).length = 4 := putB_len n 4 (by omega) (by omega)
def bytesSpec : ZSpec := fun args st K => ∃ (c : CellV), args = [.agg (cellD c)] ∧ 0 ≤ c.1 ∧ c.1 ≤ 9223372036854775807 ∧ 0 ≤ c.2.1 ∧ c.2.1 ≤ 9223372036854775807 ∧ c.2.2.length ≤ 70368744177664 ∧ K (.row (bytesD (bytesC c)) 1 0) st
theorem bytes_snd : SoundF Tryd.prog 30 bytesSpec := by
  refine sound_ofA Tryd.func30 rfl Tryd.results30 ?_
  rintro w0 args st K ⟨⟨id, leaf, data⟩, rfl, h1, h2, h3, h4, hl, hK⟩
  rw [Tryd.ntmps30]; refine ⟨by simp, ?_⟩
  simp only at h1 h2 h3 h4 hl
  unfold cellD
  (repeat (first | ((with_reducible apply zr_seq)) | ((with_reducible apply zr_region); (try simp only [List.append_eq, List.cons_append, List.nil_append]))))
  (try ((with_reducible apply zs_yes); exact rfl; exact rfl; (first | assumption | exact rfl))); refine zo_val rfl rfl (by decide) (zv_boxRef rfl rfl ?_)
  (repeat (first | ((with_reducible apply zr_seq)) | ((with_reducible apply zo_end)) | ((with_reducible apply zs_assign); (exact rfl); (exact rfl))))
  refine za_begin (m := 13) zq18 rfl ?_
  
  refine za_take (i := 0) rfl zq18 zq18 zq18 zq12 rfl rfl zq7 ?_
  refine za_take (i := 1) rfl zq18 zq18 zq18 zq12 rfl rfl zq11 ?_
  refine za_take (i := 2) rfl zq18 zq18 zq18 zq12 rfl rfl (ZPure0.pure (zp_conv rfl rfl (by exact un_int rfl) (by exact un_int rfl) (by first | (with_reducible assumption) | exact wrap_in64 (by omega) (by omega) | exact wrap_inU64 (by omega) (by omega)))) ?_
  refine za_take (i := 4) rfl zq18 zq18 zq18 zq12 rfl rfl zq7 ?_
  refine za_take (i := 5) rfl zq18 zq18 zq18 zq12 rfl rfl zq11 ?_
  refine za_take (i := 6) rfl zq18 zq18 zq18 zq12 rfl rfl (ZPure0.pure (zp_conv rfl rfl (by exact un_int rfl) (by exact un_int rfl) (by first | (with_reducible assumption) | exact wrap_in64 (by omega) (by omega) | exact wrap_inU64 (by omega) (by omega)))) ?_
  refine za_take (i := 8) rfl zq18 zq18 zq18 zq12 rfl rfl zq7 ?_
  refine za_take (i := 9) rfl zq18 zq18 zq18 zq12 rfl rfl zq11 ?_
  refine za_one (i := 3) zq18 rfl zq12 (zop_callU put_snd Tryd.func29 zq18 rfl rfl rfl (by decide) rfl rfl zq2 ?_)
  refine ⟨_, _, rfl, by omega, by omega, fun t1 ht1 ht10 => ?_⟩
  refine za_forget st (fun _ _ e => e) (fun q e => by simp [e]) ?_
  refine za_one (i := 7) zq18 rfl zq12 (zop_callU put_snd Tryd.func29 zq18 rfl rfl rfl (by decide) rfl rfl zq2 ?_)
  refine ⟨_, _, rfl, by omega, by omega, fun t2 ht2 ht20 => ?_⟩
  refine za_forget st (fun _ _ e => e) (fun q e => by simp [e]) ?_
  refine za_one_val (i := 10) zq18 rfl zq12 rfl rfl (zv_lit (xs := [.tmp 6, .tmp 10, .tmp 12]) rfl rfl el_Row zq16 rfl (by simp [cellsD, oneD]) (by decide) ?_)
  refine za_one (i := 11) zq18 rfl zq12 (zop_callU concat_snd Tryd.func44 zq18 rfl rfl rfl (by decide) rfl rfl zq2 ?_)
  refine ⟨[(putB id 4, t1), (putB leaf 4, t2), (data, 0)], _, rfl, by simp, by simp [pb4]; omega, ?_⟩
  refine za_take (i := 12) rfl zq18 zq18 zq18 zq12 rfl rfl (ZPure0.pure (zp_assign rfl rfl)) ?_
  refine za_end zq18 ?_
  (repeat (first | ((with_reducible apply zr_retZ); (exact rfl); (repeat (first | exact resD_nil _ _ _ | ((with_reducible apply resD_tmp); (exact rfl)) | ((with_reducible apply resD_cell_agg); (exact rfl); (exact sh_of rfl); (first | assumption | exact St.setH_self _ _ _); (exact rfl)) | ((with_reducible apply resD_cell); (exact rfl); (exact sh_of rfl); (first | assumption | exact St.setH_self _ _ _); (exact rfl)))); (simp only [resOf]))))
  refine KE.mk st (Ext.refl _) ?_
  have e : [(putB id 4, t1), (putB leaf 4, t2), (data, 0)].flatMap Prod.fst = bytesC (id, leaf, data) := by simp [bytesC]
  rw [e]
  exact hK
def ofSpec : ZSpec := fun args st K => ∃ (b : List UInt8) (tk : Nat), args = [.row (bytesD b) 1 tk] ∧ 8 ≤ b.length ∧ b.length ≤ 140737488355328 ∧ K (.agg (cellD (ofB b))) st
end Go.Proofs.ZtLe
