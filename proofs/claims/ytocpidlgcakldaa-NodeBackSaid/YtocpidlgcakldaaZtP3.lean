/- A part of the proof of NodeBack: walks of the functions that it reaches. No condition. -/
import Derived.Test.YtocpidlgcakldaaZtP2
import Derived.Test.YtocpidlgcakldaaZmAuto
import Derived.Test.YtocpidlgcakldaaZmP2
namespace Go.Proofs.ZtLe
open Go.RowKit Go.Proofs Go.Proofs.Zm
set_option linter.unusedVariables false
set_option linter.unusedSimpArgs false
set_option maxHeartbeats 20000000
set_option maxRecDepth 100000
attribute [local irreducible] ZWp ZOps ZPure ZPure0 ZVal ZOp SoundF

/-! ### bytes, as an own block's cells -/
def bcl (l : List UInt8) : List D := l.map fun b => .v (.int .u8 (b.toNat : Int))
@[simp] theorem bcl_length (l : List UInt8) : (bcl l).length = l.length := by simp [bcl]
theorem bcl_append (l m : List UInt8) : bcl (l ++ m) = bcl l ++ bcl m := by simp [bcl]
theorem bcl_flat (l : List UInt8) : (bytesD l).flatten = bcl l := by
  induction l with
  | nil => rfl
  | cons b l ih => simp only [bytesD, bcl, List.map_cons, List.flatten_cons] at ih ⊢; rw [ih]; rfl
theorem bytesD_ones (l : List UInt8) : ∀ x ∈ bytesD l, x.length = 1 := fun x hx => by
  simp only [bytesD, List.mem_map] at hx
  obtain ⟨b, _, rfl⟩ := hx; rfl

/-! ### slices.Grow, of nil -/
def growSpec : ZSpec := fun args st K => ∃ n : Int, args = [.v (.slice none 0 0), .v (.int .i64 n)] ∧ 0 ≤ n ∧ n ≤ 140737488355328 ∧
  (n = 0 → K (.v (.slice none 0 0)) st) ∧ (0 < n → ∀ id c, Fresh st id → n.toNat ≤ c → K (.mrow id 0 0 c) (st.setH id (some (List.replicate n.toNat (.v (.int .u8 0))))))
theorem grow_snd : SoundF Try.prog 79 growSpec := by
  refine sound_of Try.func79 rfl Try.results79 ?_
  rintro w0 args st K ⟨n, rfl, h0, h1, hK0, hK⟩
  rw [Try.ntmps79]; refine ⟨by simp, ?_⟩
  have g1 : decide (n < 0) = false := decide_eq_false (by omega)
  (repeat (first | ((with_reducible apply zr_seq)) | ((with_reducible apply zr_region); (try simp only [List.append_eq, List.cons_append, List.nil_append])) | ((with_reducible apply zo_end)) | ((with_reducible apply zs_move); (exact rfl); (exact rfl)) | ((with_reducible apply zs_assign); (exact rfl); (exact rfl)) | ((with_reducible apply zs_lss); (exact rfl); (exact rfl); (exact rfl)) | ((with_reducible apply zr_cond_f); (exact rfl); (first | assumption | exact rfl)) | ((with_reducible apply zr_skip'))))
  (try ((with_reducible apply zs_yes); exact rfl; exact rfl; (first | assumption | exact rfl))); refine zo_pure0 rfl rfl (by decide) (zp_cap_nil rfl zq34 rfl) ?_
  (repeat (first | ((with_reducible apply zr_seq)) | ((with_reducible apply zr_region); (try simp only [List.append_eq, List.cons_append, List.nil_append])) | ((with_reducible apply zo_end)) | ((with_reducible apply zs_move); (exact rfl); (exact rfl)) | ((with_reducible apply zs_assign); (exact rfl); (exact rfl)) | ((with_reducible apply zs_gtr); (exact rfl); (exact rfl); (exact rfl)) | ((with_reducible apply zs_sub); (exact rfl); (exact rfl); (exact rfl); (first | (with_reducible assumption) | exact wrap_in64 (by omega) (by omega))) | ((with_reducible apply zs_len_nil); (exact rfl); (exact rfl); (exact un_sl rfl))))
  rw [show n - ((0 : Nat) - (0 : Nat) : Int) = n by omega]
  skip
  by_cases hn : 0 < n
  · have g2 : decide (0 < n) = true := decide_eq_true hn
    (repeat (first | ((with_reducible apply zr_region); (try simp only [List.append_eq, List.cons_append, List.nil_append])) | ((with_reducible apply zs_move); (exact rfl); (exact rfl)) | ((with_reducible apply zr_cond_t); (exact rfl); (first | assumption | exact rfl))))
    (try ((with_reducible apply zs_yes); exact rfl; exact rfl; (first | assumption | exact rfl))); refine zo_pure0 rfl rfl (by decide) (zp_cap_nil rfl zq34 rfl) ?_
    obtain ⟨i5, hi5, hk5⟩ := Option.map_eq_some_iff.1 sz5
    (try ((with_reducible apply zs_yes); exact rfl; exact rfl; (first | assumption | exact rfl))); refine zo_pure0 rfl rfl (by decide) (zp_cut_nil rfl zq34 hi5 rfl rfl ⟨_, rfl⟩) ?_
    (repeat (first | ((with_reducible apply zs_move); (exact rfl); (exact rfl))))
    (try ((with_reducible apply zs_yes); exact rfl; exact rfl; (first | assumption | exact rfl))); refine zo_val rfl rfl (by decide) (zv_zeros_own rfl el5 zq31 zq34 (by exact un_int rfl) rfl rfl hn (by omega) fun id c hid hc => ?_)
    (repeat (first | ((with_reducible apply zs_move); (exact rfl); (exact rfl)) | ((with_reducible apply zs_len_nil); (exact rfl); (exact rfl); (exact un_sl rfl))))
    (try ((with_reducible apply zs_yes); exact rfl; exact rfl; (first | assumption | exact rfl))); refine zo_pure0 rfl rfl (by decide) (zp_cut_mrow rfl zq34 hi5 hk5 rfl (l := 0) (h := 0) rfl ⟨_, rfl⟩ (by omega) (by omega) (.inl rfl)) ?_
    (repeat (first | ((with_reducible apply zr_seq)) | ((with_reducible apply zr_region); (try simp only [List.append_eq, List.cons_append, List.nil_append])) | ((with_reducible apply zo_end)) | ((with_reducible apply zs_move); (exact rfl); (exact rfl)) | ((with_reducible apply zs_assign); (exact rfl); (exact rfl))))
    refine zr_retZ rfl (resD_tmp rfl (resD_nil _ _ _)) ?_
    have := hK hn id c hid hc
    simpa [resOf] using this
  · have g2 : decide (0 < n) = false := decide_eq_false hn
    (repeat (first | ((with_reducible apply zr_seq)) | ((with_reducible apply zr_region); (try simp only [List.append_eq, List.cons_append, List.nil_append])) | ((with_reducible apply zo_end)) | ((with_reducible apply zs_move); (exact rfl); (exact rfl)) | ((with_reducible apply zs_assign); (exact rfl); (exact rfl)) | ((with_reducible apply zr_cond_f); (exact rfl); (first | assumption | exact rfl)) | ((with_reducible apply zr_skip'))))
    refine zr_retZ rfl (resD_tmp rfl (resD_nil _ _ _)) ?_
    exact hK0 (by omega)

/-! ### slices.Concat -/
def concatSpec : ZSpec := fun args st K => ∃ (ps : List (List UInt8 × Nat)) (tk : Nat), args = [.row (partsD ps) 1 tk] ∧ ps.length ≤ 140737488355328 ∧ (ps.flatMap Prod.fst).length ≤ 140737488355328 ∧ K (.row (bytesD (ps.flatMap Prod.fst)) 1 0) st

theorem take_flat (ps : List (List UInt8 × Nat)) (i : Nat) (h : i < ps.length) : (ps.take (i + 1)).flatMap Prod.fst = (ps.take i).flatMap Prod.fst ++ (ps.getD i ([], 0)).1 := by
  rw [List.take_succ_eq_append_getElem h, getD_in h, List.flatMap_append]; simp
theorem take_flat_le (ps : List (List UInt8 × Nat)) (i : Nat) : ((ps.take i).flatMap Prod.fst).length ≤ (ps.flatMap Prod.fst).length := by
  have : ps.flatMap Prod.fst = (ps.take i).flatMap Prod.fst ++ (ps.drop i).flatMap Prod.fst := by rw [← List.flatMap_append, List.take_append_drop]
  rw [this, List.length_append]; omega

theorem concat_snd : SoundF Try.prog 43 concatSpec := by
  refine sound_of Try.func43 rfl Try.results43 ?_
  rintro w0 args st K ⟨ps, tk, rfl, hpl, htl, hK⟩
  rw [Try.ntmps43]; refine ⟨by simp, ?_⟩
  obtain ⟨i22, hi22, hk22⟩ := if22
  obtain ⟨i5, hi5, hk5⟩ := Option.map_eq_some_iff.1 sz5
  (repeat (first | ((with_reducible apply zr_seq)) | ((with_reducible apply zr_region); (try simp only [List.append_eq, List.cons_append, List.nil_append])) | ((with_reducible apply zo_end)) | ((with_reducible apply zs_move); (exact rfl); (exact rfl)) | ((with_reducible apply zs_assign); (exact rfl); (exact rfl)) | ((with_reducible apply zs_len); (exact rfl); (exact rfl); (exact un_sl rfl)) | ((with_reducible apply zr_block))))
  rw [partsD_length]
  refine zr_loopE (fun m env s => ∃ i : Nat, m + i = ps.length ∧ env = [(0, .row (partsD ps) 1 tk), (3, .v (.int .i64 (((ps.take i).flatMap Prod.fst).length : Nat))), (9, .row (partsD ps) 1 tk), (10, .v (.int .i64 (ps.length : Nat))), (11, .v (.int .i64 (i : Nat)))] ∧ s = st) ps.length [(0, .row (partsD ps) 1 tk), (3, .v (.int .i64 (((ps.take 0).flatMap Prod.fst).length : Nat))), (9, .row (partsD ps) 1 tk), (10, .v (.int .i64 (ps.length : Nat))), (11, .v (.int .i64 (0 : Nat)))] zq21 ⟨0, rfl, rfl, rfl⟩ ?_
  rintro m env s ⟨i, hm, rfl, rfl⟩
  (repeat (first | ((with_reducible apply zr_seq)) | ((with_reducible apply zr_region); (try simp only [List.append_eq, List.cons_append, List.nil_append])) | ((with_reducible apply zo_end)) | ((with_reducible apply zs_lss); (exact rfl); (exact rfl); (exact rfl))))
  by_cases hlt : i < ps.length
  · have g4 : decide ((i : Int) < (ps.length : Nat)) = true := decide_eq_true (by omega)
    (repeat (first | ((with_reducible apply zr_seq)) | ((with_reducible apply zr_region); (try simp only [List.append_eq, List.cons_append, List.nil_append])) | ((with_reducible apply zr_cond_t); (exact rfl); (first | assumption | exact rfl)) | ((with_reducible apply zr_block)) | ((with_reducible apply zr_skip'))))
    (try ((with_reducible apply zs_yes); exact rfl; exact rfl; (first | assumption | exact rfl))); refine zo_pure0 rfl rfl (by decide) (zp_indexAddr rfl zq34 hi22 hk22 rfl rfl (by omega) (by simpa using hlt)) ?_
    rw [Int.toNat_natCast, partsD_getD ps i hlt]
    (try ((with_reducible apply zs_yes); exact rfl; exact rfl; (first | assumption | exact rfl))); refine zo_pure rfl rfl (by decide) (zp_load_ref rfl sh22 rfl rfl) ?_
    have hfl := take_flat ps i hlt
    have hle := take_flat_le ps (i + 1)
    have hadd : (((ps.take i).flatMap Prod.fst).length : Int) + ((ps.getD i ([], 0)).1.length : Nat) = (((ps.take (i + 1)).flatMap Prod.fst).length : Nat) := by rw [hfl, List.length_append]; omega
    have hadd2 : ((ps.getD i ([], 0)).1.length : Nat) ≤ 140737488355328 := by omega
    have hadd3 := take_flat_le ps i
    (repeat (first | ((with_reducible apply zr_seq)) | ((with_reducible apply zr_region); (try simp only [List.append_eq, List.cons_append, List.nil_append])) | ((with_reducible apply zo_end)) | ((with_reducible apply zs_move); (exact rfl); (exact rfl)) | ((with_reducible apply zs_assign); (exact rfl); (exact rfl)) | ((with_reducible apply zs_lss); (exact rfl); (exact rfl); (exact rfl)) | ((with_reducible apply zs_add); (exact rfl); (exact rfl); (exact rfl); (first | (with_reducible assumption) | exact wrap_in64 (by omega) (by omega))) | ((with_reducible apply zs_lenB); (exact rfl); (exact rfl); (exact un_sl rfl)) | ((with_reducible apply zr_cond_f); (exact rfl); (first | assumption | exact rfl)) | ((with_reducible apply zr_skipB))))
    rw [hadd]
    have g5 : decide ((((ps.take (i + 1)).flatMap Prod.fst).length : Int) < 0) = false := decide_eq_false (by omega)
    skip
    exact ⟨m - 1, [(0, .row (partsD ps) 1 tk), (3, .v (.int .i64 (((ps.take (i + 1)).flatMap Prod.fst).length : Nat))), (9, .row (partsD ps) 1 tk), (10, .v (.int .i64 (ps.length : Nat))), (11, .v (.int .i64 ((i + 1) : Nat)))], by omega, ⟨i + 1, by omega, rfl, rfl⟩, zq21⟩
  have g4 : decide ((i : Int) < (ps.length : Nat)) = false := decide_eq_false (by omega)
  (repeat (first | ((with_reducible apply zr_seq)) | ((with_reducible apply zr_region); (try simp only [List.append_eq, List.cons_append, List.nil_append])) | ((with_reducible apply zs_move); (exact rfl); (exact rfl)) | ((with_reducible apply zr_cond_f); (exact rfl); (first | assumption | exact rfl)) | (with_reducible refine zr_exit ?_; simp only [Zthen, Zblock, ↓reduceIte])))
  obtain rfl : i = ps.length := by omega
  rw [List.take_length]
  (try ((with_reducible apply zs_yes); exact rfl; exact rfl; (first | assumption | exact rfl))); refine zo_callU grow_snd Try.func79 zq36 rfl rfl rfl rfl (by decide) rfl rfl (Ups.refl _) ?_
  refine ⟨_, rfl, by omega, by omega, fun h0 => ?_, fun h0 id c hid hc => ?_⟩
  · -- nothing
    have hnil : ps.flatMap Prod.fst = [] := List.eq_nil_of_length_eq_zero (by omega)
    (repeat (first | ((with_reducible apply zr_seq)) | ((with_reducible apply zr_region); (try simp only [List.append_eq, List.cons_append, List.nil_append])) | ((with_reducible apply zo_end)) | ((with_reducible apply zs_move); (exact rfl); (exact rfl)) | ((with_reducible apply zs_assign); (exact rfl); (exact rfl)) | ((with_reducible apply zs_len); (exact rfl); (exact rfl); (exact un_sl rfl)) | ((with_reducible apply zr_block))))
    rw [partsD_length]
    refine zr_nil 6 1 rfl fun t ht ht0 => ?_
    refine zr_loopE (fun m env s' => ∃ i t : Nat, m + i = ps.length ∧ env = [(6, .row [] 1 t), (25, .row (partsD ps) 1 tk), (26, .v (.int .i64 (ps.length : Nat))), (27, .v (.int .i64 (i : Nat)))] ∧ s' = s.setT t true ∧ s.T t = false ∧ t ≠ 0) ps.length [(6, .row [] 1 t), (25, .row (partsD ps) 1 tk), (26, .v (.int .i64 (ps.length : Nat))), (27, .v (.int .i64 (0 : Nat)))] zq21 ⟨0, t, by omega, rfl, rfl, ht, ht0⟩ ?_
    rintro m env s' ⟨i, t, hm, rfl, rfl, ht, ht0⟩
    (repeat (first | ((with_reducible apply zr_seq)) | ((with_reducible apply zr_region); (try simp only [List.append_eq, List.cons_append, List.nil_append])) | ((with_reducible apply zo_end)) | ((with_reducible apply zs_lss); (exact rfl); (exact rfl); (exact rfl))))
    by_cases hlt : i < ps.length
    · have g4 : decide ((i : Int) < (ps.length : Nat)) = true := decide_eq_true (by omega)
      (repeat (first | ((with_reducible apply zr_seq)) | ((with_reducible apply zr_region); (try simp only [List.append_eq, List.cons_append, List.nil_append])) | ((with_reducible apply zr_cond_t); (exact rfl); (first | assumption | exact rfl)) | ((with_reducible apply zr_block)) | ((with_reducible apply zr_skip'))))
      (try ((with_reducible apply zs_yes); exact rfl; exact rfl; (first | assumption | exact rfl))); refine zo_pure0 rfl rfl (by decide) (zp_indexAddr rfl zq34 hi22 hk22 rfl rfl (by omega) (by simpa using hlt)) ?_
      rw [Int.toNat_natCast, partsD_getD ps i hlt]
      (try ((with_reducible apply zs_yes); exact rfl; exact rfl; (first | assumption | exact rfl))); refine zo_pure rfl rfl (by decide) (zp_load_ref rfl sh22 rfl rfl) ?_
      have hp : (ps.getD i ([], 0)).1 = [] := by
        have := take_flat ps i hlt
        have hle := take_flat_le ps (i + 1)
        rw [this, List.length_append] at hle
        exact List.eq_nil_of_length_eq_zero (by omega)
      rw [hp]
      (repeat (first | ((with_reducible apply zr_region); (try simp only [List.append_eq, List.cons_append, List.nil_append])) | ((with_reducible apply zo_end)) | ((with_reducible apply zs_move); (exact rfl); (exact rfl)) | ((with_reducible apply zs_assign); (exact rfl); (exact rfl))))
      (try ((with_reducible apply zs_yes); exact rfl; exact rfl; (first | assumption | exact rfl))); refine zo_val rfl rfl (by decide) (zv_append rfl el5 zq34 rfl (by simp) rfl (by simp) fun t2 h2 h20 => ?_)
      rw [St.setT_back ht]
      have ht2 : s.T t2 = false := by
        by_cases h : t2 = t
        · simp [h] at h2
        · simpa [h] using h2
      (repeat (first | ((with_reducible apply zr_region); (try simp only [List.append_eq, List.cons_append, List.nil_append])) | ((with_reducible apply zo_end)) | ((with_reducible apply zo_endB)) | ((with_reducible apply zs_move); (exact rfl); (exact rfl)) | ((with_reducible apply zs_assign); (exact rfl); (exact rfl)) | ((with_reducible apply zs_add); (exact rfl); (exact rfl); (exact rfl); (first | (with_reducible assumption) | exact wrap_in64 (by omega) (by omega)))))
      exact ⟨m - 1, [(6, .row [] 1 t2), (25, .row (partsD ps) 1 tk), (26, .v (.int .i64 (ps.length : Nat))), (27, .v (.int .i64 ((i + 1) : Nat)))], by omega, ⟨i + 1, t2, by omega, rfl, rfl, ht2, h20⟩, zq21⟩
    · have g4 : decide ((i : Int) < (ps.length : Nat)) = false := decide_eq_false (by omega)
      (repeat (first | ((with_reducible apply zr_seq)) | ((with_reducible apply zr_region); (try simp only [List.append_eq, List.cons_append, List.nil_append])) | ((with_reducible apply zo_end)) | ((with_reducible apply zs_move); (exact rfl); (exact rfl)) | ((with_reducible apply zs_assign); (exact rfl); (exact rfl)) | ((with_reducible apply zr_cond_f); (exact rfl); (first | assumption | exact rfl)) | (with_reducible refine zr_exit ?_; simp only [Zthen, Zblock, ↓reduceIte])))
      refine zr_forget s (fun _ _ e => e) (fun q e => by simp [e]) ?_
      refine zr_retZ rfl (resD_row0 rfl (resD_nil _ _ _)) ?_
      rw [hnil] at hK
      exact hK
  · (repeat (first | ((with_reducible apply zr_seq)) | ((with_reducible apply zr_region); (try simp only [List.append_eq, List.cons_append, List.nil_append])) | ((with_reducible apply zo_end)) | ((with_reducible apply zs_move); (exact rfl); (exact rfl)) | ((with_reducible apply zs_assign); (exact rfl); (exact rfl)) | ((with_reducible apply zs_len); (exact rfl); (exact rfl); (exact un_sl rfl)) | ((with_reducible apply zr_block))))
    rw [partsD_length]
    refine zr_loopE (fun m env s' => ∃ i : Nat, ∃ rest : List D, m + i = ps.length ∧ env = [(6, .mrow id 0 ((ps.take i).flatMap Prod.fst).length c), (25, .row (partsD ps) 1 tk), (26, .v (.int .i64 (ps.length : Nat))), (27, .v (.int .i64 (i : Nat)))] ∧ s' = s.setH id (some (bcl ((ps.take i).flatMap Prod.fst) ++ rest)) ∧ ((ps.take i).flatMap Prod.fst).length + rest.length = (ps.flatMap Prod.fst).length) ps.length [(6, .mrow id 0 ((ps.take 0).flatMap Prod.fst).length c), (25, .row (partsD ps) 1 tk), (26, .v (.int .i64 (ps.length : Nat))), (27, .v (.int .i64 (0 : Nat)))] zq21
      ⟨0, _, by omega, rfl, rfl, by simp⟩ ?_
    rintro m env s' ⟨i, rest, hm, rfl, rfl, hrest⟩
    (repeat (first | ((with_reducible apply zr_seq)) | ((with_reducible apply zr_region); (try simp only [List.append_eq, List.cons_append, List.nil_append])) | ((with_reducible apply zo_end)) | ((with_reducible apply zs_lss); (exact rfl); (exact rfl); (exact rfl))))
    by_cases hlt : i < ps.length
    · have g4 : decide ((i : Int) < (ps.length : Nat)) = true := decide_eq_true (by omega)
      (repeat (first | ((with_reducible apply zr_seq)) | ((with_reducible apply zr_region); (try simp only [List.append_eq, List.cons_append, List.nil_append])) | ((with_reducible apply zr_cond_t); (exact rfl); (first | assumption | exact rfl)) | ((with_reducible apply zr_block)) | ((with_reducible apply zr_skip'))))
      (try ((with_reducible apply zs_yes); exact rfl; exact rfl; (first | assumption | exact rfl))); refine zo_pure0 rfl rfl (by decide) (zp_indexAddr rfl zq34 hi22 hk22 rfl rfl (by omega) (by simpa using hlt)) ?_
      rw [Int.toNat_natCast, partsD_getD ps i hlt]
      (try ((with_reducible apply zs_yes); exact rfl; exact rfl; (first | assumption | exact rfl))); refine zo_pure rfl rfl (by decide) (zp_load_ref rfl sh22 rfl rfl) ?_
      have hfl := take_flat ps i hlt
      have hle := take_flat_le ps (i + 1)
      have hfl2 : ((ps.take (i + 1)).flatMap Prod.fst).length = ((ps.take i).flatMap Prod.fst).length + (ps.getD i ([], 0)).1.length := by rw [hfl, List.length_append]
      (repeat (first | ((with_reducible apply zr_region); (try simp only [List.append_eq, List.cons_append, List.nil_append])) | ((with_reducible apply zo_end)) | ((with_reducible apply zs_move); (exact rfl); (exact rfl)) | ((with_reducible apply zs_assign); (exact rfl); (exact rfl))))
      (try ((with_reducible apply zs_yes); exact rfl; exact rfl; (first | assumption | exact rfl))); refine zo_val rfl rfl (by decide) (zv_append_room (cs := bcl ((ps.take i).flatMap Prod.fst) ++ rest) rfl el5 zq34 rfl (by simp) (by simp only [List.length_append, bcl_length, bytesD_length, Nat.mul_one]; omega) rfl (by simp only [bytesD_length]; omega) ?_)
      rw [St.setH_setH]
      (repeat (first | ((with_reducible apply zr_region); (try simp only [List.append_eq, List.cons_append, List.nil_append])) | ((with_reducible apply zo_end)) | ((with_reducible apply zo_endB)) | ((with_reducible apply zs_move); (exact rfl); (exact rfl)) | ((with_reducible apply zs_assign); (exact rfl); (exact rfl)) | ((with_reducible apply zs_add); (exact rfl); (exact rfl); (exact rfl); (first | (with_reducible assumption) | exact wrap_in64 (by omega) (by omega)))))
      have ecs : (bcl ((ps.take i).flatMap Prod.fst) ++ rest).take (((ps.take i).flatMap Prod.fst).length * 1) ++ (bytesD (ps.getD i ([], 0)).1).flatten ++ (bcl ((ps.take i).flatMap Prod.fst) ++ rest).drop ((((ps.take i).flatMap Prod.fst).length + (bytesD (ps.getD i ([], 0)).1).length) * 1)
          = bcl ((ps.take (i + 1)).flatMap Prod.fst) ++ rest.drop (ps.getD i ([], 0)).1.length := by
        rw [hfl, bcl_append, bcl_flat, Nat.mul_one, Nat.mul_one, List.take_append_of_le_length (by simp), List.take_of_length_le (by simp), List.drop_append, List.drop_eq_nil_of_le (by simp), List.nil_append]
        simp
      rw [ecs]
      refine ⟨m - 1, [(6, .mrow id 0 ((ps.take (i + 1)).flatMap Prod.fst).length c), (25, .row (partsD ps) 1 tk), (26, .v (.int .i64 (ps.length : Nat))), (27, .v (.int .i64 ((i + 1) : Nat)))], by omega, ⟨i + 1, _, by omega, rfl, rfl, by rw [List.length_drop]; omega⟩, sub_cons ?_ zq21⟩
      rw [hfl2, ← bytesD_length (ps.getD i ([], 0)).1]; rfl
    · have g4 : decide ((i : Int) < (ps.length : Nat)) = false := decide_eq_false (by omega)
      obtain rfl : i = ps.length := by omega
      rw [List.take_length] at hrest ⊢
      have hr0 : rest = [] := List.eq_nil_of_length_eq_zero (by omega)
      subst hr0
      refine zr_freeze (id := id) [(6, .row (bytesD (ps.flatMap Prod.fst)) 1 0), (28, .v (.bool (decide ((ps.length : Int) < (ps.length : Nat)))))] (by simp; rfl)
        (fz_cons rfl (.mrow 0 _ c 1 (bytesD (ps.flatMap Prod.fst)) (by simp) (bytesD_ones _) (by rw [bcl_flat]; simp [List.take_of_length_le])) (fz_cons rfl (.same _) fz_nil)) ?_
      rw [St.setH_setH, St.setH_none hid.1]
      (repeat (first | ((with_reducible apply zr_seq)) | ((with_reducible apply zr_region); (try simp only [List.append_eq, List.cons_append, List.nil_append])) | ((with_reducible apply zo_end)) | ((with_reducible apply zs_move); (exact rfl); (exact rfl)) | ((with_reducible apply zs_assign); (exact rfl); (exact rfl)) | ((with_reducible apply zr_cond_f); (exact rfl); (first | assumption | exact rfl)) | (with_reducible refine zr_exit ?_; simp only [Zthen, Zblock, ↓reduceIte])))
      refine zr_retZ rfl (resD_tmp rfl (resD_nil _ _ _)) ?_
      exact hK
end Go.Proofs.ZtLe
namespace Go.Proofs.ZtLe
open Go.RowKit Go.Proofs Go.Proofs.Zm
/-! ### functions that may be called -/
theorem cl_12 : Callable Try.prog 12 := callable zq36
theorem cl_13 : Callable Try.prog 13 := callable zq36
theorem cl_14 : Callable Try.prog 14 := callable zq36
theorem cl_15 : Callable Try.prog 15 := callable zq36
theorem cl_16 : Callable Try.prog 16 := callable zq36
theorem cl_19 : Callable Try.prog 19 := callable zq36
theorem cl_20 : Callable Try.prog 20 := callable zq36
theorem cl_24 : Callable Try.prog 24 := callable zq36
theorem cl_25 : Callable Try.prog 25 := callable zq36
theorem cl_26 : Callable Try.prog 26 := callable zq36
theorem cl_27 : Callable Try.prog 27 := callable zq36
theorem cl_42 : Callable Try.prog 42 := callable zq36
theorem cl_43 : Callable Try.prog 43 := callable zq36
theorem cl_44 : Callable Try.prog 44 := callable zq36
theorem cl_45 : Callable Try.prog 45 := callable zq36
theorem cl_46 : Callable Try.prog 46 := callable zq36
theorem cl_47 : Callable Try.prog 47 := callable zq36
theorem cl_48 : Callable Try.prog 48 := callable zq36
theorem cl_49 : Callable Try.prog 49 := callable zq36
theorem cl_51 : Callable Try.prog 51 := callable zq36
theorem cl_54 : Callable Try.prog 54 := callable zq36
theorem cl_56 : Callable Try.prog 56 := callable zq36
theorem cl_57 : Callable Try.prog 57 := callable zq36
theorem cl_58 : Callable Try.prog 58 := callable zq36
theorem cl_59 : Callable Try.prog 59 := callable zq36
theorem cl_61 : Callable Try.prog 61 := callable zq36
theorem cl_62 : Callable Try.prog 62 := callable zq36
theorem cl_63 : Callable Try.prog 63 := callable zq36
theorem cl_64 : Callable Try.prog 64 := callable zq36
theorem cl_65 : Callable Try.prog 65 := callable zq36
theorem cl_76 : Callable Try.prog 76 := callable zq36
theorem cl_77 : Callable Try.prog 77 := callable zq36
theorem cl_78 : Callable Try.prog 78 := callable zq36
theorem cl_88 : Callable Try.prog 88 := callable zq36
theorem cl_89 : Callable Try.prog 89 := callable zq36
theorem cl_90 : Callable Try.prog 90 := callable zq36
theorem cl_91 : Callable Try.prog 91 := callable zq36
theorem cl_92 : Callable Try.prog 92 := callable zq36
theorem cl_93 : Callable Try.prog 93 := callable zq36
theorem cl_94 : Callable Try.prog 94 := callable zq36
theorem cl_102 : Callable Try.prog 102 := callable zq36
theorem cl_103 : Callable Try.prog 103 := callable zq36
theorem cl_104 : Callable Try.prog 104 := callable zq36
end Go.Proofs.ZtLe
