/- A part of the proof of NodeMsgForms: walks of the functions that it reaches. No condition. -/
import Derived.Test.YtocpidlgcakldaaZtP2
import Derived.Test.YtocpidlgcakldaaZmAuto
import Derived.Test.YtocpidlgcakldaaZmP2
namespace Go.Proofs.ZtLe
open Go.RowKit Go.Proofs Go.Proofs.Zm
set_option linter.unusedVariables false
set_option linter.unusedSimpArgs false
set_option maxHeartbeats 20000000
set_option maxRecDepth 100000
attribute [local irreducible] ZWp ZOps ZPure ZPure0 ZVal ZOp SoundF

/-! ### bytes, as an own block's cells -/
def bcl (l : List UInt8) : List D := l.map fun b => .v (.int .u8 (b.toNat : Int))
@[simp] theorem bcl_length (l : List UInt8) : (bcl l).length = l.length := by simp [bcl]
theorem bcl_append (l m : List UInt8) : bcl (l ++ m) = bcl l ++ bcl m := by simp [bcl]
theorem bcl_flat (l : List UInt8) : (bytesD l).flatten = bcl l := by
  induction l with
  | nil => rfl
  | cons b l ih => simp only [bytesD, bcl, List.map_cons, List.flatten_cons] at ih ⊢; rw [ih]; rfl
theorem bytesD_ones (l : List UInt8) : ∀ x ∈ bytesD l, x.length = 1 := fun x hx => by
  simp only [bytesD, List.mem_map] at hx
  obtain ⟨b, _, rfl⟩ := hx; rfl

/-! ### slices.Grow, of nil -/
def growSpec : ZSpec := fun args st K => ∃ n : Int, args = [.v (.slice none 0 0), .v (.int .i64 n)] ∧ 0 ≤ n ∧ n ≤ 140737488355328 ∧
  (n = 0 → K (.v (.slice none 0 0)) st) ∧ (0 < n → ∀ id c, Fresh st id → n.toNat ≤ c → K (.mrow id 0 0 c) (st.setH id (some (List.replicate n.toNat (.v (.int .u8 0))))))
theorem grow_snd : SoundF Try.prog 79 growSpec := by
  refine sound_of Try.func79 rfl Try.results79 ?_
  rintro w0 args st K ⟨n, rfl, h0, h1, hK0, hK⟩
  rw [Try.ntmps79]; refine ⟨by simp, ?_⟩
  have g1 : decide (n < 0) = false := decide_eq_false (by omega)
  (repeat (first | ((with_reducible apply zr_seq)) | ((with_reducible apply zr_region); (try simp only [List.append_eq, List.cons_append, List.nil_append])) | ((with_reducible apply zo_end)) | ((with_reducible apply zs_move); (exact rfl); (exact rfl)) | ((with_reducible apply zs_assign); (exact rfl); (exact rfl)) | ((with_reducible apply zs_lss); (exact rfl); (exact rfl); (exact rfl)) | ((with_reducible apply zr_cond_f); (exact rfl); (first | assumption | exact rfl)) | ((with_reducible apply zr_skip'))))
  (try ((with_reducible apply zs_yes); exact rfl; exact rfl; (first | assumption | exact rfl))); refine zo_pure0 rfl rfl (by decide) (zp_cap_nil rfl zq26 rfl) ?_
  (repeat (first | ((with_reducible apply zr_seq)) | ((with_reducible apply zr_region); (try simp only [List.append_eq, List.cons_append, List.nil_append])) | ((with_reducible apply zo_end)) | ((with_reducible apply zs_move); (exact rfl); (exact rfl)) | ((with_reducible apply zs_assign); (exact rfl); (exact rfl)) | ((with_reducible apply zs_gtr); (exact rfl); (exact rfl); (exact rfl)) | ((with_reducible apply zs_sub); (exact rfl); (exact rfl); (exact rfl); (first | (with_reducible assumption) | exact wrap_in64 (by omega) (by omega))) | ((with_reducible apply zs_len_nil); (exact rfl); (exact rfl); (exact un_sl rfl))))
  rw [show n - ((0 : Nat) - (0 : Nat) : Int) = n by omega]
  skip
  by_cases hn : 0 < n
  · have g2 : decide (0 < n) = true := decide_eq_true hn
    (repeat (first | ((with_reducible apply zr_region); (try simp only [List.append_eq, List.cons_append, List.nil_append])) | ((with_reducible apply zs_move); (exact rfl); (exact rfl)) | ((with_reducible apply zr_cond_t); (exact rfl); (first | assumption | exact rfl))))
    (try ((with_reducible apply zs_yes); exact rfl; exact rfl; (first | assumption | exact rfl))); refine zo_pure0 rfl rfl (by decide) (zp_cap_nil rfl zq26 rfl) ?_
    obtain ⟨i5, hi5, hk5⟩ := Option.map_eq_some_iff.1 sz5
    (try ((with_reducible apply zs_yes); exact rfl; exact rfl; (first | assumption | exact rfl))); refine zo_pure0 rfl rfl (by decide) (zp_cut_nil rfl zq26 hi5 rfl rfl ⟨_, rfl⟩) ?_
    (repeat (first | ((with_reducible apply zs_move); (exact rfl); (exact rfl))))
    (try ((with_reducible apply zs_yes); exact rfl; exact rfl; (first | assumption | exact rfl))); refine zo_val rfl rfl (by decide) (zv_zeros_own rfl el5 zq23 zq26 (by exact un_int rfl) rfl rfl hn (by omega) fun id c hid hc => ?_)
    (repeat (first | ((with_reducible apply zs_move); (exact rfl); (exact rfl)) | ((with_reducible apply zs_len_nil); (exact rfl); (exact rfl); (exact un_sl rfl))))
    (try ((with_reducible apply zs_yes); exact rfl; exact rfl; (first | assumption | exact rfl))); refine zo_pure0 rfl rfl (by decide) (zp_cut_mrow rfl zq26 hi5 hk5 rfl (l := 0) (h := 0) rfl ⟨_, rfl⟩ (by omega) (by omega) (.inl rfl)) ?_
    (repeat (first | ((with_reducible apply zr_seq)) | ((with_reducible apply zr_region); (try simp only [List.append_eq, List.cons_append, List.nil_append])) | ((with_reducible apply zo_end)) | ((with_reducible apply zs_move); (exact rfl); (exact rfl)) | ((with_reducible apply zs_assign); (exact rfl); (exact rfl))))
    refine zr_retZ rfl (resD_tmp rfl (resD_nil _ _ _)) ?_
    have := hK hn id c hid hc
    simpa [resOf] using this
  · have g2 : decide (0 < n) = false := decide_eq_false hn
    (repeat (first | ((with_reducible apply zr_seq)) | ((with_reducible apply zr_region); (try simp only [List.append_eq, List.cons_append, List.nil_append])) | ((with_reducible apply zo_end)) | ((with_reducible apply zs_move); (exact rfl); (exact rfl)) | ((with_reducible apply zs_assign); (exact rfl); (exact rfl)) | ((with_reducible apply zr_cond_f); (exact rfl); (first | assumption | exact rfl)) | ((with_reducible apply zr_skip'))))
    refine zr_retZ rfl (resD_tmp rfl (resD_nil _ _ _)) ?_
    exact hK0 (by omega)

/-! ### slices.Concat -/
def concatSpec : ZSpec := fun args st K => ∃ (ps : List (List UInt8 × Nat)) (tk : Nat), args = [.row (partsD ps) 1 tk] ∧ ps.length ≤ 140737488355328 ∧ (ps.flatMap Prod.fst).length ≤ 140737488355328 ∧ K (.row (bytesD (ps.flatMap Prod.fst)) 1 0) st

theorem take_flat (ps : List (List UInt8 × Nat)) (i : Nat) (h : i < ps.length) : (ps.take (i + 1)).flatMap Prod.fst = (ps.take i).flatMap Prod.fst ++ (ps.getD i ([], 0)).1 := by
  rw [List.take_succ_eq_append_getElem h, getD_in h, List.flatMap_append]; simp
theorem take_flat_le (ps : List (List UInt8 × Nat)) (i : Nat) : ((ps.take i).flatMap Prod.fst).length ≤ (ps.flatMap Prod.fst).length := by
  have : ps.flatMap Prod.fst = (ps.take i).flatMap Prod.fst ++ (ps.drop i).flatMap Prod.fst := by rw [← List.flatMap_append, List.take_append_drop]
  rw [this, List.length_append]; omega

theorem concat_snd : SoundF Try.prog 43 concatSpec := by
  refine sound_of Try.func43 rfl Try.results43 ?_
  rintro w0 args st K ⟨ps, tk, rfl, hpl, htl, hK⟩
  rw [Try.ntmps43]; refine ⟨by simp, ?_⟩
  obtain ⟨i22, hi22, hk22⟩ := if22
  obtain ⟨i5, hi5, hk5⟩ := Option.map_eq_some_iff.1 sz5
  (repeat (first | ((with_reducible apply zr_seq)) | ((with_reducible apply zr_region); (try simp only [List.append_eq, List.cons_append, List.nil_append])) | ((with_reducible apply zo_end)) | ((with_reducible apply zs_move); (exact rfl); (exact rfl)) | ((with_reducible apply zs_assign); (exact rfl); (exact rfl)) | ((with_reducible apply zs_len); (exact rfl); (exact rfl); (exact un_sl rfl)) | ((with_reducible apply zr_block))))
  rw [partsD_length]
  refine zr_loopE (fun m env s => ∃ i : Nat, m + i = ps.length ∧ env = [(0, .row (partsD ps) 1 tk), (3, .v (.int .i64 (((ps.take i).flatMap Prod.fst).length : Nat))), (9, .row (partsD ps) 1 tk), (10, .v (.int .i64 (ps.length : Nat))), (11, .v (.int .i64 (i : Nat)))] ∧ s = st) ps.length [(0, .row (partsD ps) 1 tk), (3, .v (.int .i64 (((ps.take 0).flatMap Prod.fst).length : Nat))), (9, .row (partsD ps) 1 tk), (10, .v (.int .i64 (ps.length : Nat))), (11, .v (.int .i64 (0 : Nat)))] zq17 ⟨0, rfl, rfl, rfl⟩ ?_
  rintro m env s ⟨i, hm, rfl, rfl⟩
  (repeat (first | ((with_reducible apply zr_seq)) | ((with_reducible apply zr_region); (try simp only [List.append_eq, List.cons_append, List.nil_append])) | ((with_reducible apply zo_end)) | ((with_reducible apply zs_lss); (exact rfl); (exact rfl); (exact rfl))))
  by_cases hlt : i < ps.length
  · have g4 : decide ((i : Int) < (ps.length : Nat)) = true := decide_eq_true (by omega)
    (repeat (first | ((with_reducible apply zr_seq)) | ((with_reducible apply zr_region); (try simp only [List.append_eq, List.cons_append, List.nil_append])) | ((with_reducible apply zr_cond_t); (exact rfl); (first | assumption | exact rfl)) | ((with_reducible apply zr_block)) | ((with_reducible apply zr_skip'))))
    (try ((with_reducible apply zs_yes); exact rfl; exact rfl; (first | assumption | exact rfl))); refine zo_pure0 rfl rfl (by decide) (zp_indexAddr rfl zq26 hi22 hk22 rfl rfl (by omega) (by simpa using hlt)) ?_
    rw [Int.toNat_natCast, partsD_getD ps i hlt]
    (try ((with_reducible apply zs_yes); exact rfl; exact rfl; (first | assumption | exact rfl))); refine zo_pure rfl rfl (by decide) (zp_load_ref rfl sh22 rfl rfl) ?_
    have hfl := take_flat ps i hlt
    have hle := take_flat_le ps (i + 1)
    have hadd : (((ps.take i).flatMap Prod.fst).length : Int) + ((ps.getD i ([], 0)).1.length : Nat) = (((ps.take (i + 1)).flatMap Prod.fst).length : Nat) := by rw [hfl, List.length_append]; omega
    have hadd2 : ((ps.getD i ([], 0)).1.length : Nat) ≤ 140737488355328 := by omega
    have hadd3 := take_flat_le ps i
    (repeat (first | ((with_reducible apply zr_seq)) | ((with_reducible apply zr_region); (try simp only [List.append_eq, List.cons_append, List.nil_append])) | ((with_reducible apply zo_end)) | ((with_reducible apply zs_move); (exact rfl); (exact rfl)) | ((with_reducible apply zs_assign); (exact rfl); (exact rfl)) | ((with_reducible apply zs_lss); (exact rfl); (exact rfl); (exact rfl)) | ((with_reducible apply zs_add); (exact rfl); (exact rfl); (exact rfl); (first | (with_reducible assumption) | exact wrap_in64 (by omega) (by omega))) | ((with_reducible apply zs_lenB); (exact rfl); (exact rfl); (exact un_sl rfl)) | ((with_reducible apply zr_cond_f); (exact rfl); (first | assumption | exact rfl)) | ((with_reducible apply zr_skipB))))
    rw [hadd]
    have g5 : decide ((((ps.take (i + 1)).flatMap Prod.fst).length : Int) < 0) = false := decide_eq_false (by omega)
    skip
    exact ⟨m - 1, [(0, .row (partsD ps) 1 tk), (3, .v (.int .i64 (((ps.take (i + 1)).flatMap Prod.fst).length : Nat))), (9, .row (partsD ps) 1 tk), (10, .v (.int .i64 (ps.length : Nat))), (11, .v (.int .i64 ((i + 1) : Nat)))], by omega, ⟨i + 1, by omega, rfl, rfl⟩, zq17⟩
  have g4 : decide ((i : Int) < (ps.length : Nat)) = false := decide_eq_false (by omega)
  (repeat (first | ((with_reducible apply zr_seq)) | ((with_reducible apply zr_region); (try simp only [List.append_eq, List.cons_append, List.nil_append])) | ((with_reducible apply zs_move); (exact rfl); (exact rfl)) | ((with_reducible apply zr_cond_f); (exact rfl); (first | assumption | exact rfl)) | (with_reducible refine zr_exit ?_; simp only [Zthen, Zblock, ↓reduceIte])))
  obtain rfl : i = ps.length := by omega
  rw [List.take_length]
  (try ((with_reducible apply zs_yes); exact rfl; exact rfl; (first | assumption | exact rfl))); refine zo_callU grow_snd Try.func79 zq28 rfl rfl rfl rfl (by decide) rfl rfl (Ups.refl _) ?_
  refine ⟨_, rfl, by omega, by omega, fun h0 => ?_, fun h0 id c hid hc => ?_⟩
  · -- nothing
    have hnil : ps.flatMap Prod.fst = [] := List.eq_nil_of_length_eq_zero (by omega)
    (repeat (first | ((with_reducible apply zr_seq)) | ((with_reducible apply zr_region); (try simp only [List.append_eq, List.cons_append, List.nil_append])) | ((with_reducible apply zo_end)) | ((with_reducible apply zs_move); (exact rfl); (exact rfl)) | ((with_reducible apply zs_assign); (exact rfl); (exact rfl)) | ((with_reducible apply zs_len); (exact rfl); (exact rfl); (exact un_sl rfl)) | ((with_reducible apply zr_block))))
    rw [partsD_length]
    refine zr_nil 6 1 rfl fun t ht ht0 => ?_
    refine zr_loopE (fun m env s' => ∃ i t : Nat, m + i = ps.length ∧ env = [(6, .row [] 1 t), (25, .row (partsD ps) 1 tk), (26, .v (.int .i64 (ps.length : Nat))), (27, .v (.int .i64 (i : Nat)))] ∧ s' = s.setT t true ∧ s.T t = false ∧ t ≠ 0) ps.length [(6, .row [] 1 t), (25, .row (partsD ps) 1 tk), (26, .v (.int .i64 (ps.length : Nat))), (27, .v (.int .i64 (0 : Nat)))] zq17 ⟨0, t, by omega, rfl, rfl, ht, ht0⟩ ?_
    rintro m env s' ⟨i, t, hm, rfl, rfl, ht, ht0⟩
    (repeat (first | ((with_reducible apply zr_seq)) | ((with_reducible apply zr_region); (try simp only [List.append_eq, List.cons_append, List.nil_append])) | ((with_reducible apply zo_end)) | ((with_reducible apply zs_lss); (exact rfl); (exact rfl); (exact rfl))))
    by_cases hlt : i < ps.length
    · have g4 : decide ((i : Int) < (ps.length : Nat)) = true := decide_eq_true (by omega)
      (repeat (first | ((with_reducible apply zr_seq)) | ((with_reducible apply zr_region); (try simp only [List.append_eq, List.cons_append, List.nil_append])) | ((with_reducible apply zr_cond_t); (exact rfl); (first | assumption | exact rfl)) | ((with_reducible apply zr_block)) | ((with_reducible apply zr_skip'))))
      (try ((with_reducible apply zs_yes); exact rfl; exact rfl; (first | assumption | exact rfl))); refine zo_pure0 rfl rfl (by decide) (zp_indexAddr rfl zq26 hi22 hk22 rfl rfl (by omega) (by simpa using hlt)) ?_
      rw [Int.toNat_natCast, partsD_getD ps i hlt]
      (try ((with_reducible apply zs_yes); exact rfl; exact rfl; (first | assumption | exact rfl))); refine zo_pure rfl rfl (by decide) (zp_load_ref rfl sh22 rfl rfl) ?_
      have hp : (ps.getD i ([], 0)).1 = [] := by
        have := take_flat ps i hlt
        have hle := take_flat_le ps (i + 1)
        rw [this, List.length_append] at hle
        exact List.eq_nil_of_length_eq_zero (by omega)
      rw [hp]
      (repeat (first | ((with_reducible apply zr_region); (try simp only [List.append_eq, List.cons_append, List.nil_append])) | ((with_reducible apply zo_end)) | ((with_reducible apply zs_move); (exact rfl); (exact rfl)) | ((with_reducible apply zs_assign); (exact rfl); (exact rfl))))
      (try ((with_reducible apply zs_yes); exact rfl; exact rfl; (first | assumption | exact rfl))); refine zo_val rfl rfl (by decide) (zv_append rfl el5 zq26 rfl (by simp) rfl (by simp) fun t2 h2 h20 => ?_)
      rw [St.setT_back ht]
      have ht2 : s.T t2 = false := by
        by_cases h : t2 = t
        · simp [h] at h2
        · simpa [h] using h2
      (repeat (first | ((with_reducible apply zr_region); (try simp only [List.append_eq, List.cons_append, List.nil_append])) | ((with_reducible apply zo_end)) | ((with_reducible apply zo_endB)) | ((with_reducible apply zs_move); (exact rfl); (exact rfl)) | ((with_reducible apply zs_assign); (exact rfl); (exact rfl)) | ((with_reducible apply zs_add); (exact rfl); (exact rfl); (exact rfl); (first | (with_reducible assumption) | exact wrap_in64 (by omega) (by omega)))))
      exact ⟨m - 1, [(6, .row [] 1 t2), (25, .row (partsD ps) 1 tk), (26, .v (.int .i64 (ps.length : Nat))), (27, .v (.int .i64 ((i + 1) : Nat)))], by omega, ⟨i + 1, t2, by omega, rfl, rfl, ht2, h20⟩, zq17⟩
    · have g4 : decide ((i : Int) < (ps.length : Nat)) = false := decide_eq_false (by omega)
      (repeat (first | ((with_reducible apply zr_seq)) | ((with_reducible apply zr_region); (try simp only [List.append_eq, List.cons_append, List.nil_append])) | ((with_reducible apply zo_end)) | ((with_reducible apply zs_move); (exact rfl); (exact rfl)) | ((with_reducible apply zs_assign); (exact rfl); (exact rfl)) | ((with_reducible apply zr_cond_f); (exact rfl); (first | assumption | exact rfl)) | (with_reducible refine zr_exit ?_; simp only [Zthen, Zblock, ↓reduceIte])))
      refine zr_forget s (fun _ _ e => e) (fun q e => by simp [e]) ?_
      refine zr_retZ rfl (resD_row0 rfl (resD_nil _ _ _)) ?_
      rw [hnil] at hK
      exact hK
  · (repeat (first | ((with_reducible apply zr_seq)) | ((with_reducible apply zr_region); (try simp only [List.append_eq, List.cons_append, List.nil_append])) | ((with_reducible apply zo_end)) | ((with_reducible apply zs_move); (exact rfl); (exact rfl)) | ((with_reducible apply zs_assign); (exact rfl); (exact rfl)) | ((with_reducible apply zs_len); (exact rfl); (exact rfl); (exact un_sl rfl)) | ((with_reducible apply zr_block))))
    rw [partsD_length]
    refine zr_loopE (fun m env s' => ∃ i : Nat, ∃ rest : List D, m + i = ps.length ∧ env = [(6, .mrow id 0 ((ps.take i).flatMap Prod.fst).length c), (25, .row (partsD ps) 1 tk), (26, .v (.int .i64 (ps.length : Nat))), (27, .v (.int .i64 (i : Nat)))] ∧ s' = s.setH id (some (bcl ((ps.take i).flatMap Prod.fst) ++ rest)) ∧ ((ps.take i).flatMap Prod.fst).length + rest.length = (ps.flatMap Prod.fst).length) ps.length [(6, .mrow id 0 ((ps.take 0).flatMap Prod.fst).length c), (25, .row (partsD ps) 1 tk), (26, .v (.int .i64 (ps.length : Nat))), (27, .v (.int .i64 (0 : Nat)))] zq17
      ⟨0, _, by omega, rfl, rfl, by simp⟩ ?_
    rintro m env s' ⟨i, rest, hm, rfl, rfl, hrest⟩
    (repeat (first | ((with_reducible apply zr_seq)) | ((with_reducible apply zr_region); (try simp only [List.append_eq, List.cons_append, List.nil_append])) | ((with_reducible apply zo_end)) | ((with_reducible apply zs_lss); (exact rfl); (exact rfl); (exact rfl))))
    by_cases hlt : i < ps.length
    · have g4 : decide ((i : Int) < (ps.length : Nat)) = true := decide_eq_true (by omega)
      (repeat (first | ((with_reducible apply zr_seq)) | ((with_reducible apply zr_region); (try simp only [List.append_eq, List.cons_append, List.nil_append])) | ((with_reducible apply zr_cond_t); (exact rfl); (first | assumption | exact rfl)) | ((with_reducible apply zr_block)) | ((with_reducible apply zr_skip'))))
      (try ((with_reducible apply zs_yes); exact rfl; exact rfl; (first | assumption | exact rfl))); refine zo_pure0 rfl rfl (by decide) (zp_indexAddr rfl zq26 hi22 hk22 rfl rfl (by omega) (by simpa using hlt)) ?_
      rw [Int.toNat_natCast, partsD_getD ps i hlt]
      (try ((with_reducible apply zs_yes); exact rfl; exact rfl; (first | assumption | exact rfl))); refine zo_pure rfl rfl (by decide) (zp_load_ref rfl sh22 rfl rfl) ?_
      have hfl := take_flat ps i hlt
      have hle := take_flat_le ps (i + 1)
      have hfl2 : ((ps.take (i + 1)).flatMap Prod.fst).length = ((ps.take i).flatMap Prod.fst).length + (ps.getD i ([], 0)).1.length := by rw [hfl, List.length_append]
      (repeat (first | ((with_reducible apply zr_region); (try simp only [List.append_eq, List.cons_append, List.nil_append])) | ((with_reducible apply zo_end)) | ((with_reducible apply zs_move); (exact rfl); (exact rfl)) | ((with_reducible apply zs_assign); (exact rfl); (exact rfl))))
      (try ((with_reducible apply zs_yes); exact rfl; exact rfl; (first | assumption | exact rfl))); refine zo_val rfl rfl (by decide) (zv_append_room (cs := bcl ((ps.take i).flatMap Prod.fst) ++ rest) rfl el5 zq26 rfl (by simp) (by simp only [List.length_append, bcl_length, bytesD_length, Nat.mul_one]; omega) rfl (by simp only [bytesD_length]; omega) ?_)
      rw [St.setH_setH]
      (repeat (first | ((with_reducible apply zr_region); (try simp only [List.append_eq, List.cons_append, List.nil_append])) | ((with_reducible apply zo_end)) | ((with_reducible apply zo_endB)) | ((with_reducible apply zs_move); (exact rfl); (exact rfl)) | ((with_reducible apply zs_assign); (exact rfl); (exact rfl)) | ((with_reducible apply zs_add); (exact rfl); (exact rfl); (exact rfl); (first | (with_reducible assumption) | exact wrap_in64 (by omega) (by omega)))))
      have ecs : (bcl ((ps.take i).flatMap Prod.fst) ++ rest).take (((ps.take i).flatMap Prod.fst).length * 1) ++ (bytesD (ps.getD i ([], 0)).1).flatten ++ (bcl ((ps.take i).flatMap Prod.fst) ++ rest).drop ((((ps.take i).flatMap Prod.fst).length + (bytesD (ps.getD i ([], 0)).1).length) * 1)
          = bcl ((ps.take (i + 1)).flatMap Prod.fst) ++ rest.drop (ps.getD i ([], 0)).1.length := by
        rw [hfl, bcl_append, bcl_flat, Nat.mul_one, Nat.mul_one, List.take_append_of_le_length (by simp), List.take_of_length_le (by simp), List.drop_append, List.drop_eq_nil_of_le (by simp), List.nil_append]
        simp
      rw [ecs]
      refine ⟨m - 1, [(6, .mrow id 0 ((ps.take (i + 1)).flatMap Prod.fst).length c), (25, .row (partsD ps) 1 tk), (26, .v (.int .i64 (ps.length : Nat))), (27, .v (.int .i64 ((i + 1) : Nat)))], by omega, ⟨i + 1, _, by omega, rfl, rfl, by rw [List.length_drop]; omega⟩, sub_cons ?_ zq17⟩
      rw [hfl2, ← bytesD_length (ps.getD i ([], 0)).1]; rfl
    · have g4 : decide ((i : Int) < (ps.length : Nat)) = false := decide_eq_false (by omega)
      obtain rfl : i = ps.length := by omega
      rw [List.take_length] at hrest ⊢
      have hr0 : rest = [] := List.eq_nil_of_length_eq_zero (by omega)
      subst hr0
      refine zr_freeze (id := id) [(6, .row (bytesD (ps.flatMap Prod.fst)) 1 0), (28, .v (.bool (decide ((ps.length : Int) < (ps.length : Nat)))))] (by simp; rfl)
        (fz_cons rfl (.mrow 0 _ c 1 (bytesD (ps.flatMap Prod.fst)) (by simp) (bytesD_ones _) (by rw [bcl_flat]; simp [List.take_of_length_le])) (fz_cons rfl (.same _) fz_nil)) ?_
      rw [St.setH_setH, St.setH_none hid.1]
      (repeat (first | ((with_reducible apply zr_seq)) | ((with_reducible apply zr_region); (try simp only [List.append_eq, List.cons_append, List.nil_append])) | ((with_reducible apply zo_end)) | ((with_reducible apply zs_move); (exact rfl); (exact rfl)) | ((with_reducible apply zs_assign); (exact rfl); (exact rfl)) | ((with_reducible apply zr_cond_f); (exact rfl); (first | assumption | exact rfl)) | (with_reducible refine zr_exit ?_; simp only [Zthen, Zblock, ↓reduceIte])))
      refine zr_retZ rfl (resD_tmp rfl (resD_nil _ _ _)) ?_
      exact hK
end Go.Proofs.ZtLe
namespace Go.Proofs.ZtLe
open Go.RowKit Go.Proofs Go.Proofs.Zm
/-! ### functions that may be called -/
theorem cl_11 : Callable Try.prog 11 := callable zq28
theorem cl_12 : Callable Try.prog 12 := callable zq28
theorem cl_13 : Callable Try.prog 13 := callable zq28
theorem cl_14 : Callable Try.prog 14 := callable zq28
theorem cl_15 : Callable Try.prog 15 := callable zq28
theorem cl_16 : Callable Try.prog 16 := callable zq28
theorem cl_19 : Callable Try.prog 19 := callable zq28
theorem cl_20 : Callable Try.prog 20 := callable zq28
theorem cl_26 : Callable Try.prog 26 := callable zq28
theorem cl_42 : Callable Try.prog 42 := callable zq28
theorem cl_43 : Callable Try.prog 43 := callable zq28
theorem cl_44 : Callable Try.prog 44 := callable zq28
theorem cl_45 : Callable Try.prog 45 := callable zq28
theorem cl_46 : Callable Try.prog 46 := callable zq28
theorem cl_47 : Callable Try.prog 47 := callable zq28
theorem cl_48 : Callable Try.prog 48 := callable zq28
theorem cl_49 : Callable Try.prog 49 := callable zq28
theorem cl_58 : Callable Try.prog 58 := callable zq28
theorem cl_59 : Callable Try.prog 59 := callable zq28
theorem cl_61 : Callable Try.prog 61 := callable zq28
theorem cl_76 : Callable Try.prog 76 := callable zq28
theorem cl_77 : Callable Try.prog 77 := callable zq28
theorem cl_78 : Callable Try.prog 78 := callable zq28
theorem cl_88 : Callable Try.prog 88 := callable zq28
theorem cl_89 : Callable Try.prog 89 := callable zq28
theorem cl_90 : Callable Try.prog 90 := callable zq28
theorem cl_91 : Callable Try.prog 91 := callable zq28
theorem cl_92 : Callable Try.prog 92 := callable zq28
theorem cl_93 : Callable Try.prog 93 := callable zq28
theorem cl_94 : Callable Try.prog 94 := callable zq28
theorem cl_102 : Callable Try.prog 102 := callable zq28
theorem cl_103 : Callable Try.prog 103 := callable zq28
theorem cl_104 : Callable Try.prog 104 := callable zq28
end Go.Proofs.ZtLe
namespace Go.Proofs.ZtLe
open Go.RowKit Go.Proofs Go.Proofs.Zm
set_option linter.unusedVariables false
set_option linter.unusedSimpArgs false
set_option maxHeartbeats 20000000
set_option maxRecDepth 100000
attribute [local irreducible] ZWp ZOps ZPure ZPure0 ZVal ZOp SoundF
/-! ### values -/
abbrev MsgV := Int × Bs × Bs
def msgD (m : MsgV) : List D := [.v (.int .i64 m.1), .row (bytesD m.2.1) 1 0, .row (bytesD m.2.2) 1 0]
def msgR (l : List MsgV) : List (List D) := l.map msgD
abbrev PairV := Bs × Bs
def pairD (p : PairV) : List D := [.row (bytesD p.1) 1 0, .row (bytesD p.2) 1 0]
def pairR (l : List PairV) : List (List D) := l.map pairD
structure NodeV where
  leaf : Bool
  keys : List Bs
  vals : List Bs
  kids : List Int
  msgs : List MsgV
deriving DecidableEq
def nodeD (n : NodeV) : List D := [.v (.bool n.leaf), .row (rowR n.keys) 1 0, .row (rowR n.vals) 1 0, .row (intR n.kids) 1 0, .row (msgR n.msgs) 3 0]
def noNode : NodeV := ⟨false, [], [], [], []⟩
@[simp] theorem msgR_length (l : List MsgV) : (msgR l).length = l.length := by simp [msgR]
@[simp] theorem pairR_length (l : List PairV) : (pairR l).length = l.length := by simp [pairR]
theorem msgR_three (l : List MsgV) : ∀ x ∈ msgR l, x.length = 3 := fun x hx => by
  obtain ⟨c, _, rfl⟩ := List.mem_map.1 hx; rfl
theorem pairR_two (l : List PairV) : ∀ x ∈ pairR l, x.length = 2 := fun x hx => by
  obtain ⟨c, _, rfl⟩ := List.mem_map.1 hx; rfl
theorem msgR_append (l m : List MsgV) : msgR (l ++ m) = msgR l ++ msgR m := by simp [msgR]
theorem pairR_append (l m : List PairV) : pairR (l ++ m) = pairR l ++ pairR m := by simp [pairR]
theorem eltM {l : List MsgV} {i : Nat} (h : i < l.length) : ∃ c, l[i]? = some c ∧ l.take (i + 1) = l.take i ++ [c] ∧ l.drop i = c :: l.drop (i + 1) ∧ (msgR l).getD i [] = msgD c := by
  obtain ⟨c, h1, h2, h3, h4⟩ := elt h; exact ⟨c, h1, h2, h3, h4 _⟩
/-! ### bytes in order -/
theorem ext_cmp : ExtIs Try.prog 101 Extern.BytealgCompare.compare := ⟨_, Try.func101, by kernel_rfl, by kernel_rfl, by kernel_rfl, by kernel_rfl⟩
theorem compare_pf {l m : Bs} {tk tm : Nat} (h : True) : PureF Try.prog 88 [.row (bytesD l) 1 tk, .row (bytesD m) 1 tm] (.v (.int .i64 (Lib.compareBytes l m))) := by
  refine pure_of Try.func88 rfl Try.results88 (by rw [Try.ntmps88]; simp) (fun w0 st K hK => ?_); rw [Try.ntmps88]
  (repeat (first | ((with_reducible apply zr_seq)) | ((with_reducible apply zr_region); (try simp only [List.append_eq, List.cons_append, List.nil_append])) | ((with_reducible apply zo_end)) | ((with_reducible apply zs_move); (exact rfl); (exact rfl)) | ((with_reducible apply zs_assign); (exact rfl); (exact rfl))))
  (try ((with_reducible apply zs_yes); exact rfl; exact rfl; (first | assumption | exact rfl))); refine zo_pure rfl rfl (by decide) (zp_compare rfl ext_cmp rfl rfl) ?_
  (repeat (first | ((with_reducible apply zo_end)) | ((with_reducible apply zs_assign); (exact rfl); (exact rfl)) | ((with_reducible apply zr_retZ); (exact rfl); (repeat (first | exact resD_nil _ _ _ | ((with_reducible apply resD_tmp); (exact rfl)) | ((with_reducible apply resD_cell_agg); (exact rfl); (exact sh_of rfl); (first | assumption | exact St.setH_self _ _ _); (exact rfl)) | ((with_reducible apply resD_cell); (exact rfl); (exact sh_of rfl); (first | assumption | exact St.setH_self _ _ _); (exact rfl)))); (simp only [resOf]))))
  exact KE.mk _ (Ext.refl _) hK
theorem same_pf {l m : Bs} {tk tm : Nat} (h : True) : PureF Try.prog 19 [.row (bytesD l) 1 tk, .row (bytesD m) 1 tm] (.v (.bool (l == m))) := PureF.of same_snd fun st K hK => ⟨_, _, _, _, rfl, hK⟩
theorem samem_pf {a b : MsgV} (h : True) : PureF Try.prog 20 [.agg (msgD a), .agg (msgD b)] (.v (.bool (decide (a = b)))) := by
  refine pure_of Try.func20 rfl Try.results20 (by rw [Try.ntmps20]; simp) (fun w0 st K hK => ?_); rw [Try.ntmps20]
  (repeat (first | ((with_reducible apply zr_seq)) | ((with_reducible apply zr_region); (try simp only [List.append_eq, List.cons_append, List.nil_append])) | ((with_reducible apply zo_end)) | ((with_reducible apply zs_move); (exact rfl); (exact rfl)) | ((with_reducible apply zs_assign); (exact rfl); (exact rfl)) | ((with_reducible apply zs_eql); (exact rfl); (exact rfl); (exact rfl)) | ((with_reducible apply zs_field_ref); (exact rfl); (exact rfl); (exact fld_of rfl)) | ((with_reducible apply zs_load_ref); (exact rfl); (exact rfl); (exact sh_of rfl); (exact rfl)) | ((with_reducible apply zs_and); (exact rfl); (exact rfl); (intro hp_; first | exact congrArg some (gd_t hp_) | exact rfl); (exact rfl)) | ((with_reducible apply (zs_boxRef (t := 2))); (exact rfl); (exact rfl)) | ((with_reducible apply (zs_boxRef (t := 3))); (exact rfl); (exact rfl)) | ((with_reducible apply (zs_h_field_ref [])); (exact rfl); (first | exact GC.t rfl rfl | exact GC.f rfl rfl | exact GC.gt rfl rfl | exact GC.gf rfl rfl); (exact rfl); (intro hc_; first | exact congrArg some (gd_t hc_) | exact congrArg some (gd_t (band_l hc_)) | exact congrArg some (gd_t (band_l (band_l hc_))) | exact rfl); (intro _; exact fld_of rfl)) | ((with_reducible apply (zs_h_load_ref [])); (exact rfl); (first | exact GC.t rfl rfl | exact GC.f rfl rfl | exact GC.gt rfl rfl | exact GC.gf rfl rfl); (exact rfl); (intro hc_; first | exact congrArg some (gd_t hc_) | exact congrArg some (gd_t (band_l hc_)) | exact congrArg some (gd_t (band_l (band_l hc_))) | exact rfl); (intro _; exact sh_of rfl); (intro _; exact rfl)) | ((with_reducible apply (zs_h_callQ [] same_pf cl_19)); (exact rfl); (first | exact GC.t rfl rfl | exact GC.f rfl rfl | exact GC.gt rfl rfl | exact GC.gf rfl rfl); (exact rfl); (intro hc_; (repeat ((with_reducible apply evs_cons); (first | exact congrArg some (gd_t hc_) | exact congrArg some (gd_t (band_l hc_)) | exact rfl))); exact evs_nil); ((repeat (first | exact DLes.nil | (apply DLes.cons; first | exact DLe.refl _ | exact DLe.nilB | exact DLe.nilR | exact DLe.nilI)))); (intro hc_; first | exact trivial | assumption | ((try simp only [Bool.and_eq_true, decide_eq_true_eq, Bool.not_eq_true'] at hc_); (repeat' (with_reducible refine And.intro ?_ ?_)) <;> first | assumption | omega | exact trivial | (simp; done) | (simp; omega)))) | ((with_reducible apply zr_retZ); (exact rfl); (repeat (first | exact resD_nil _ _ _ | ((with_reducible apply resD_tmp); (exact rfl)) | ((with_reducible apply resD_cell_agg); (exact rfl); (exact sh_of rfl); (first | assumption | exact St.setH_self _ _ _); (exact rfl)) | ((with_reducible apply resD_cell); (exact rfl); (exact sh_of rfl); (first | assumption | exact St.setH_self _ _ _); (exact rfl)))); (simp only [resOf]))))
  have e : (decide (a.1 = b.1) && (a.2.1 == b.2.1) && (a.2.2 == b.2.2)) = decide (a = b) := by
    obtain ⟨a1, a2, a3⟩ := a
    obtain ⟨b1, b2, b3⟩ := b
    simp [Prod.mk.injEq, bs_beq, Bool.and_assoc]
  refine KE.mk _ (Ext.refl _) ?_
  rw [e]
  exact hK
/-! ### rows, compared -/
/-- A node whose lists are not beyond all bounds. -/
def NB (n : NodeV) : Prop := n.keys.length ≤ 4611686018427387904 ∧ n.vals.length ≤ 4611686018427387904 ∧ n.kids.length ≤ 4611686018427387904 ∧ n.msgs.length ≤ 4611686018427387904
end Go.Proofs.ZtLe
namespace Go.Proofs.ZtLe
open Go.RowKit Go.Proofs Go.Proofs.Zm
set_option linter.unusedVariables false
set_option linter.unusedSimpArgs false
set_option maxHeartbeats 20000000
set_option maxRecDepth 100000
attribute [local irreducible] ZWp ZOps ZPure ZPure0 ZVal ZOp SoundF

/-! ### slices.Clone -/
/-! ### places among keys -/
end Go.Proofs.ZtLe
namespace Go.Proofs.ZtLe
open Go.RowKit Go.Proofs Go.Proofs.Zm
set_option linter.unusedVariables false
set_option linter.unusedSimpArgs false
set_option maxHeartbeats 20000000
set_option maxRecDepth 100000
attribute [local irreducible] ZWp ZOps ZPure ZPure0 ZVal ZOp SoundF

/-! ### inne.Span -/
/-- Keys that are not beyond all bounds. -/
def KB (l : List Bs) : Prop := l.length ≤ 2147483648 ∧ ∀ b ∈ l, b.length ≤ 2147483648
theorem KB.at {l : List Bs} (h : KB l) {i : Nat} {c : Bs} (hc : l[i]? = some c) : c.length ≤ 2147483648 := h.2 _ (List.mem_of_getElem? hc)
def loL (l : List Bs) (k : Nat) : Bs := if k = 0 then [] else l.getD (k - 1) []
def hiL (l : List Bs) (k : Nat) : Bs := l.getD k []
theorem getD_of {α : Type} {l : List α} {i : Nat} {c z : α} (h : l[i]? = some c) : l.getD i z = c := by rw [List.getD_eq_getElem?_getD, h]; rfl
/-! ### the document's way -/
end Go.Proofs.ZtLe
namespace Go.Proofs.ZtLe
open Go.RowKit Go.Proofs Go.Proofs.Zm
set_option linter.unusedVariables false
set_option linter.unusedSimpArgs false
set_option maxHeartbeats 20000000
set_option maxRecDepth 100000
attribute [local irreducible] ZWp ZOps ZPure ZPure0 ZVal ZOp SoundF

/-! ### mesg.Still, inne.still -/
def MB (m : MsgV) : Prop := m.2.1.length ≤ 2147483648 ∧ m.2.2.length ≤ 2147483648
/-- A node whose lists and texts are small. -/
structure NodeB (n : NodeV) : Prop where
  keys : KB n.keys
  vals : KB n.vals
  kids : n.kids.length ≤ 2147483648
  msgs : n.msgs.length ≤ 2147483648
  msg : ∀ m ∈ n.msgs, MB m
def stillOwn : ZSpec := fun args st K => ∃ n : NodeV, args = [.agg (nodeD n)] ∧ NodeB n ∧ ∀ o1 c1 f1 o2 c2 f2 o3 c3 f3 o4 c4 f4 st', Sep st st' [(o1, f1), (o2, f2), (o3, f3), (o4, f4)] → GRow o1 f1 1 n.keys.length c1 (rowR n.keys).flatten →
  GRow o2 f2 1 n.vals.length c2 (rowR n.vals).flatten → GRow o3 f3 3 n.msgs.length c3 (msgR n.msgs).flatten → GRow o4 f4 1 n.kids.length c4 (intR n.kids).flatten →
  K (.agg [.v (.bool n.leaf), orow o1 n.keys.length c1, orow o2 n.vals.length c2, orow o4 n.kids.length c4, orow o3 n.msgs.length c3]) st'
end Go.Proofs.ZtLe
namespace Go.Proofs.ZtLe
open Go.RowKit Go.Proofs Go.Proofs.Zm
set_option linter.unusedVariables false
set_option linter.unusedSimpArgs false
set_option maxHeartbeats 20000000
set_option maxRecDepth 100000
attribute [local irreducible] ZWp ZOps ZPure ZPure0 ZVal ZOp SoundF

/-! ### slices.Insert -/
def insSpec (k : Nat) : ZSpec := fun args st K => ∃ (o : Option Nat) (n c i idv : Nat) (full cells x : List D), args = [orow o n c, .v (.int .i64 (i : Nat)), .mrow idv 0 1 1] ∧ i ≤ n ∧ n ≤ 2147483648 ∧ x.length = k ∧ OwnA st [(o, full), (some idv, x)] ∧ GRow o full k n c cells ∧
  ∀ o' c' full' st', Sep (bareL st [(o, full), (some idv, x)]) st' [(o', full')] → GRow o' full' k (n + 1) c' (cells.take (i * k) ++ x ++ cells.drop (i * k)) → K (orow o' (n + 1) c') st'
end Go.Proofs.ZtLe
namespace Go.Proofs.ZtLe
open Go.RowKit Go.Proofs Go.Proofs.Zm
set_option linter.unusedVariables false
set_option linter.unusedSimpArgs false
set_option maxHeartbeats 20000000
set_option maxRecDepth 100000
attribute [local irreducible] ZWp ZOps ZPure ZPure0 ZVal ZOp SoundF

/-! ### slices.Insert of whole numbers, of pairs -/
end Go.Proofs.ZtLe
namespace Go.Proofs.ZtLe
open Go.RowKit Go.Proofs Go.Proofs.Zm
set_option linter.unusedVariables false
set_option linter.unusedSimpArgs false
set_option maxHeartbeats 20000000
set_option maxRecDepth 100000
attribute [local irreducible] ZWp ZOps ZPure ZPure0 ZVal ZOp SoundF

/-! ### slices.Delete of pairs -/
def delSpec (k : Nat) : ZSpec := fun args st K => ∃ (o : Option Nat) (n c i j : Nat) (full cells : List D), args = [orow o n c, .v (.int .i64 (i : Nat)), .v (.int .i64 (j : Nat))] ∧ i < j ∧ j ≤ n ∧ n ≤ 2147483648 ∧ OwnA st [(o, full)] ∧ GRow o full k n c cells ∧
  ∀ o' c' full' st', Sep (bareL st [(o, full)]) st' [(o', full')] → GRow o' full' k (i + (n - j)) c' (cells.take (i * k) ++ cells.drop (j * k)) → K (orow o' (i + (n - j)) c') st'
end Go.Proofs.ZtLe
namespace Go.Proofs.ZtLe
open Go.RowKit Go.Proofs Go.Proofs.Zm
set_option linter.unusedVariables false
set_option linter.unusedSimpArgs false
set_option maxHeartbeats 20000000
set_option maxRecDepth 100000
attribute [local irreducible] ZWp ZOps ZPure ZPure0 ZVal ZOp SoundF

/-! ### inne.still, given away -/

/-! ### inne.Heavy -/
/-- How many messages a kid has. -/
def cntK (keys : List Bs) (l : List MsgV) (k : Nat) : Nat := (l.filter fun m => wayL keys m.2.1 == k).length
def cntL (keys : List Bs) (l : List MsgV) (N : Nat) : List D := (List.range N).map fun k => .v (.int .i64 (cntK keys l k : Nat))
theorem cntL_length (keys : List Bs) (l : List MsgV) (N : Nat) : (cntL keys l N).length = N := by simp [cntL]
theorem cntL_get {keys : List Bs} {l : List MsgV} {N k : Nat} (h : k < N) : (cntL keys l N)[k]? = some (.v (.int .i64 (cntK keys l k : Nat))) := by
  unfold cntL; rw [List.getElem?_map, List.getElem?_range h]; rfl
theorem cntK_app (keys : List Bs) (l : List MsgV) (m : MsgV) (k : Nat) : cntK keys (l ++ [m]) k = cntK keys l k + if wayL keys m.2.1 = k then 1 else 0 := by
  unfold cntK
  rw [List.filter_append, List.length_append]
  by_cases h : wayL keys m.2.1 = k <;> simp [h]
def bestL (f : Nat → Nat) (N : Nat) : Nat := (List.range N).foldl (fun b i => if f b < f i then i else b) 0
theorem bestL_succ (f : Nat → Nat) (i : Nat) : bestL f (i + 1) = if f (bestL f i) < f i then i else bestL f i := by
  unfold bestL; rw [List.range_succ, List.foldl_append]; rfl
def heavyL (n : NodeV) : Nat := bestL (cntK n.keys n.msgs) (n.keys.length + 1)
/-! ### inne.Chunk -/
/-- The first messages of a kid, at most so many, and the rest. -/
def mineL (keys : List Bs) (k most : Nat) (l : List MsgV) : List MsgV × List MsgV := l.foldl (fun p m => if p.1.length < most ∧ wayL keys m.2.1 = k then (p.1 ++ [m], p.2) else (p.1, p.2 ++ [m])) ([], [])
theorem mineL_app (keys : List Bs) (k most : Nat) (l : List MsgV) (m : MsgV) : mineL keys k most (l ++ [m]) = if (mineL keys k most l).1.length < most ∧ wayL keys m.2.1 = k then ((mineL keys k most l).1 ++ [m], (mineL keys k most l).2) else ((mineL keys k most l).1, (mineL keys k most l).2 ++ [m]) := by
  unfold mineL; rw [List.foldl_append]; rfl
theorem rev_ind {α : Type} {p : List α → Prop} (h0 : p []) (h1 : ∀ l a, p l → p (l ++ [a])) (l : List α) : p l := by
  have key : ∀ (n : Nat) (l : List α), l.length = n → p l := by
    intro n
    induction n with
    | zero => intro l hl; rw [List.length_eq_zero_iff.1 hl]; exact h0
    | succ n ih =>
      intro l hl
      have hne : l ≠ [] := fun e => by subst e; cases hl
      rw [← List.dropLast_concat_getLast hne]
      exact h1 _ _ (ih _ (by rw [List.length_dropLast]; omega))
  exact key _ l rfl
def chunkOwn : ZSpec := fun args st K => ∃ (n : NodeV) (k most : Nat), args = [.agg (nodeD n), .v (.int .i64 (k : Nat)), .v (.int .i64 (most : Nat))] ∧ NodeB n ∧ Srt n.keys ∧ ∀ o c f o2 c2 f2 st', Sep st st' [(o, f), (o2, f2)] → GRow o f 3 (mineL n.keys k most n.msgs).1.length c (msgR (mineL n.keys k most n.msgs).1).flatten → GRow o2 f2 3 (mineL n.keys k most n.msgs).2.length c2 (msgR (mineL n.keys k most n.msgs).2).flatten →
  K (.tup [.agg [.v (.bool n.leaf), .row (rowR n.keys) 1 0, .row (rowR n.vals) 1 0, .row (intR n.kids) 1 0, orow o2 (mineL n.keys k most n.msgs).2.length c2], orow o (mineL n.keys k most n.msgs).1.length c]) st'
end Go.Proofs.ZtLe
namespace Go.Proofs.ZtLe
open Go.RowKit Go.Proofs Go.Proofs.Zm
set_option linter.unusedVariables false
set_option linter.unusedSimpArgs false
set_option maxHeartbeats 20000000
set_option maxRecDepth 100000
attribute [local irreducible] ZWp ZOps ZPure ZPure0 ZVal ZOp SoundF

/-! ### inne.Grow -/
def insAt {α : Type} (l : List α) (k : Nat) (x : α) : List α := l.take k ++ [x] ++ l.drop k
def growN (n : NodeV) (k : Nat) (p : Bs) (id : Int) : NodeV := { n with keys := insAt n.keys k p, kids := insAt n.kids (k + 1) id }
theorem flat_take1 {α : Type} (f : α → D) (l : List α) (i : Nat) : ((l.map fun a => [f a]).flatten).take (i * 1) = ((l.take i).map fun a => [f a]).flatten := by
  rw [Nat.mul_one]
  simp only [← List.flatMap_def]
  rw [show (fun a => [f a]) = (fun a => List.singleton (f a)) from rfl]
  simp [List.flatMap_singleton', List.singleton, List.map_take, ← List.map_eq_flatMap]
theorem flat_drop1 {α : Type} (f : α → D) (l : List α) (i : Nat) : ((l.map fun a => [f a]).flatten).drop (i * 1) = ((l.drop i).map fun a => [f a]).flatten := by
  rw [Nat.mul_one]
  simp only [← List.flatMap_def]
  simp [List.map_drop, ← List.map_eq_flatMap]
def growOwn : ZSpec := fun args st K => ∃ (n : NodeV) (k tk : Nat) (p : Bs) (id : Int), args = [.agg (nodeD n), .v (.int .i64 (k : Nat)), .row (bytesD p) 1 tk, .v (.int .i64 id)] ∧ NodeB n ∧ k ≤ n.keys.length ∧ k + 1 ≤ n.kids.length ∧ p.length ≤ 2147483648 ∧
  ∀ o1 c1 f1 o2 c2 f2 o3 c3 f3 o4 c4 f4 st', Sep st st' [(o1, f1), (o2, f2), (o3, f3), (o4, f4)] → GRow o1 f1 1 (n.keys.length + 1) c1 (rowR (insAt n.keys k p)).flatten →
  GRow o2 f2 1 n.vals.length c2 (rowR n.vals).flatten → GRow o3 f3 3 n.msgs.length c3 (msgR n.msgs).flatten → GRow o4 f4 1 (n.kids.length + 1) c4 (intR (insAt n.kids (k + 1) id)).flatten →
  K (.agg [.v (.bool n.leaf), orow o1 (n.keys.length + 1) c1, orow o2 n.vals.length c2, orow o4 (n.kids.length + 1) c4, orow o3 n.msgs.length c3]) st'
end Go.Proofs.ZtLe
namespace Go.Proofs.ZtLe
open Go.RowKit Go.Proofs Go.Proofs.Zm
set_option linter.unusedVariables false
set_option linter.unusedSimpArgs false
set_option maxHeartbeats 20000000
set_option maxRecDepth 100000
attribute [local irreducible] ZWp ZOps ZPure ZPure0 ZVal ZOp SoundF

/-! ### Configs -/
structure CfgV where
  keyMax : Int
  valMax : Int
  c : Int
  f : Int
  m : Int
  l : Int
  e : Int
  maxKeys : Int
  z : Int
  fill : Nat
def cfgD (c : CfgV) : List D := [.v (.int .i64 c.keyMax), .v (.int .i64 c.valMax), .v (.int .i64 c.c), .v (.int .i64 c.f), .v (.int .i64 c.m), .v (.int .i64 c.l), .v (.int .i64 c.e), .v (.int .i64 c.maxKeys), .v (.int .i64 c.z), .v (.float .f64 c.fill)]

/-! ### inne.Split -/
def zeroN : List D := [.v (.bool false), .v (.slice none 0 0), .v (.slice none 0 0), .v (.slice none 0 0), .v (.slice none 0 0)]
/-- Whether a node is split. -/
def splits (F : Int) (n : NodeV) : Bool := decide (F < (n.kids.length : Int)) && decide (n.keys.length + 1 = n.kids.length) && decide (2 ≤ n.kids.length)
def halfOf (n : NodeV) : Nat := (n.kids.length + 1) / 2
def pivotOf (n : NodeV) : Bs := n.keys.getD (halfOf n - 1) []
def leftOf (n : NodeV) : NodeV := ⟨false, n.keys.take (halfOf n - 1), [], n.kids.take (halfOf n), n.msgs.filter fun m => lt m.2.1 (pivotOf n)⟩
def rightOf (n : NodeV) : NodeV := ⟨false, n.keys.drop (halfOf n), [], n.kids.drop (halfOf n), n.msgs.filter fun m => !lt m.2.1 (pivotOf n)⟩
def splitOwn : ZSpec := fun args st K => ∃ (c : CfgV) (n : NodeV), args = [.agg (cfgD c), .agg (nodeD n)] ∧ NodeB n ∧ (splits c.f n = false → K (.tup [.agg (nodeD n), .agg zeroN, .v (.slice none 0 0), .v (.bool false)]) st) ∧
  (splits c.f n = true → ∀ o1 c1 f1 o2 c2 f2 st', Sep st st' [(o1, f1), (o2, f2)] → GRow o1 f1 3 (leftOf n).msgs.length c1 (msgR (leftOf n).msgs).flatten → GRow o2 f2 3 (rightOf n).msgs.length c2 (msgR (rightOf n).msgs).flatten →
    K (.tup [.agg [.v (.bool false), .row (rowR (leftOf n).keys) 1 0, .v (.slice none 0 0), .row (intR (leftOf n).kids) 1 0, orow o1 (leftOf n).msgs.length c1],
      .agg [.v (.bool false), .row (rowR (rightOf n).keys) 1 0, .v (.slice none 0 0), .row (intR (rightOf n).kids) 1 0, orow o2 (rightOf n).msgs.length c2], .row (bytesD (pivotOf n)) 1 0, .v (.bool true)]) st')
/-- What a split node is. -/
def splitD (F : Int) (n : NodeV) : D := if splits F n = true then .tup [.agg (nodeD (leftOf n)), .agg (nodeD (rightOf n)), .row (bytesD (pivotOf n)) 1 0, .v (.bool true)] else .tup [.agg (nodeD n), .agg (nodeD noNode), .row (bytesD []) 1 0, .v (.bool false)]
end Go.Proofs.ZtLe
namespace Go.Proofs.ZtLe
open Go.RowKit Go.Proofs Go.Proofs.Zm
set_option linter.unusedVariables false
set_option linter.unusedSimpArgs false
set_option maxHeartbeats 20000000
set_option maxRecDepth 100000
attribute [local irreducible] ZWp ZOps ZPure ZPure0 ZVal ZOp SoundF

/-! ### floats -/
/-! ### dumbwaiterlaw18.Key -/
def keySpec : ZSpec := fun args st K => ∃ (n most : Int), args = [.v (.int .i64 n), .v (.int .i64 most)] ∧ 0 ≤ most ∧ most ≤ 4611686018427387904 ∧ ∀ (l : Bs) t, l.length ≤ 2 → (l.length : Int) ≤ most → st.T t = false → t ≠ 0 → K (.row (bytesD l) 1 t) (st.setT t true)
end Go.Proofs.ZtLe
namespace Go.Proofs.ZtLe
open Go.RowKit Go.Proofs Go.Proofs.Zm
set_option linter.unusedVariables false
set_option linter.unusedSimpArgs false
set_option maxHeartbeats 20000000
set_option maxRecDepth 100000
attribute [local irreducible] ZWp ZOps ZPure ZPure0 ZVal ZOp SoundF

/-! ### numbers that are added -/
def bytesN (b : Nat) : Bs := putB (oneN b : Nat) 8
def ofN (l : Bs) : Nat := if l.length = 8 then oneN (get l).toNat else 0
theorem bytesN_length (b : Nat) : (bytesN b).length = 8 := by simp [bytesN, putB, put_length]
theorem put_pf {n : Int} {k : Int} (h : 0 ≤ n ∧ n < 18446744073709551616) : PureF Try.prog 44 [.v (.int .u64 n), .v (.int .i64 k)] (.row (bytesD (putB n k)) 1 0) :=
  PureF.ofOwn fun st K hK => ⟨_, put_snd, n, k, rfl, h.1, h.2, fun t ht ht0 => hK [] _ _ ⟨(Ext.refl _).setT t, fun _ _ h => (by cases h), fun _ _ h => (by cases h), List.nodup_nil⟩ (fun r hr => by simp at hr) fun G hr u hu => hu.notok⟩
theorem get_pf {l : Bs} {tk : Nat} (h : l.length ≤ 140737488355328) : PureF Try.prog 59 [.row (bytesD l) 1 tk] (.v (.int .u64 (get l))) := PureF.of get_snd fun st K hK => ⟨_, _, rfl, h, hK⟩
/-! ### mesg.Fold, mesg.Of and the document's -/
def stepM (s : Bs × Bool) (m : MsgV) : Bs × Bool := if m.1 = 1 then (m.2.2, true) else if m.1 = 2 then ([], false) else if m.1 = 3 then (bytesN (addN (ofN s.1) (ofN m.2.2)), true) else s
def foldM (v : Bs) (there : Bool) (l : List MsgV) : Bs × Bool := l.foldl stepM ((if there = true then v else []), there)
theorem foldM_snoc (v : Bs) (there : Bool) (l : List MsgV) (m : MsgV) : foldM v there (l ++ [m]) = stepM (foldM v there l) m := by unfold foldM; rw [List.foldl_append]; rfl
end Go.Proofs.ZtLe
namespace Go.Proofs.ZtLe
open Go.RowKit Go.Proofs Go.Proofs.Zm
set_option linter.unusedVariables false
set_option linter.unusedSimpArgs false
set_option maxHeartbeats 20000000
set_option maxRecDepth 100000
attribute [local irreducible] ZWp ZOps ZPure ZPure0 ZVal ZOp SoundF

/-! ### mesg.Fold -/
end Go.Proofs.ZtLe
namespace Go.Proofs.ZtLe
open Go.RowKit Go.Proofs Go.Proofs.Zm
set_option linter.unusedVariables false
set_option linter.unusedSimpArgs false
set_option maxHeartbeats 20000000
set_option maxRecDepth 100000
attribute [local irreducible] ZWp ZOps ZPure ZPure0 ZVal ZOp SoundF

/-! ### bytes.Equal, mesg.Of, the pairs' order -/
theorem equal_pf {l m : Bs} {tk tm : Nat} (h : True) : PureF Try.prog 61 [.row (bytesD l) 1 tk, .row (bytesD m) 1 tm] (.v (.bool (l == m))) := by
  refine pure_of Try.func61 rfl Try.results61 (by rw [Try.ntmps61]; simp) (fun w0 st K hK => ?_); rw [Try.ntmps61]
  (repeat (first | ((with_reducible apply zr_seq)) | ((with_reducible apply zr_region); (try simp only [List.append_eq, List.cons_append, List.nil_append])) | ((with_reducible apply zo_end)) | ((with_reducible apply zs_move); (exact rfl); (exact rfl)) | ((with_reducible apply zs_assign); (exact rfl); (exact rfl)) | ((with_reducible apply zs_streq); (exact rfl); (exact rfl); (exact rfl)) | ((with_reducible apply zs_toStr); (exact rfl); (exact rfl); (exact un_sl rfl); (exact Try.underlying5); (exact Try.underlying9)) | ((with_reducible apply zr_retZ); (exact rfl); (repeat (first | exact resD_nil _ _ _ | ((with_reducible apply resD_tmp); (exact rfl)) | ((with_reducible apply resD_cell_agg); (exact rfl); (exact sh_of rfl); (first | assumption | exact St.setH_self _ _ _ | exact Sep.at_ (i := 0) zq27 rfl | exact Sep.at_ (i := 1) zq27 rfl | exact Sep.at_ (i := 2) zq27 rfl | exact Sep.at_ (i := 3) zq27 rfl | exact Sep.at_ (i := 4) zq27 rfl | exact Sep.at_ (i := 5) zq27 rfl | exact Sep.at_ (i := 6) zq27 rfl); (exact rfl)) | ((with_reducible apply resD_cell); (exact rfl); (exact sh_of rfl); (first | assumption | exact St.setH_self _ _ _ | exact Sep.at_ (i := 0) zq27 rfl | exact Sep.at_ (i := 1) zq27 rfl | exact Sep.at_ (i := 2) zq27 rfl | exact Sep.at_ (i := 3) zq27 rfl | exact Sep.at_ (i := 4) zq27 rfl | exact Sep.at_ (i := 5) zq27 rfl | exact Sep.at_ (i := 6) zq27 rfl); (exact rfl)))); (simp only [resOf]))))
  exact KE.mk _ (Ext.refl _) hK
def isOf (key : Bs) (m : MsgV) : Bool := decide (1 ≤ m.1) && decide (m.1 ≤ 3) && (m.2.1 == key)
def ofL (key : Bs) (l : List MsgV) : List MsgV := l.filter (isOf key)
end Go.Proofs.ZtLe
namespace Go.Proofs.ZtLe
open Go.RowKit Go.Proofs Go.Proofs.Zm
set_option linter.unusedVariables false
set_option linter.unusedSimpArgs false
set_option maxHeartbeats 20000000
set_option maxRecDepth 100000
attribute [local irreducible] ZWp ZOps ZPure ZPure0 ZVal ZOp SoundF

/-! ### pairs in own memory -/
def keysP (ps : List PairV) : List Bs := ps.map (·.1)
theorem keysP_length (ps : List PairV) : (keysP ps).length = ps.length := by simp [keysP]
theorem pairR_flat_length (l : List PairV) : (pairR l).flatten.length = l.length * 2 := by
  rw [flatten_len (pairR l) (pairR_two l), pairR_length]
end Go.Proofs.ZtLe
namespace Go.Proofs.ZtLe
open Go.RowKit Go.Proofs Go.Proofs.Zm
set_option linter.unusedVariables false
set_option linter.unusedSimpArgs false
set_option maxHeartbeats 20000000
set_option maxRecDepth 100000
attribute [local irreducible] ZWp ZOps ZPure ZPure0 ZVal ZOp SoundF

/-! ### mesg.one -/
def thereP (ps : List PairV) (k : Bs) : Bool := decide ((keysP ps)[cnt (keysP ps) k]? = some k)
def wasP (ps : List PairV) (k : Bs) : Bs := if thereP ps k = true then (ps.getD (cnt (keysP ps) k) ([], [])).2 else []
def oneL (ps : List PairV) (m : MsgV) : List PairV :=
  let r := foldM (wasP ps m.2.1) (thereP ps m.2.1) [m]
  let i := cnt (keysP ps) m.2.1
  if thereP ps m.2.1 = true then (if r.2 = true then ps.set i (m.2.1, r.1) else ps.take i ++ ps.drop (i + 1)) else if r.2 = true then ps.take i ++ (m.2.1, r.1) :: ps.drop i else ps
theorem thereP_get {ps : List PairV} {k : Bs} (h : thereP ps k = true) : ∃ v, ps[cnt (keysP ps) k]? = some (k, v) := by
  unfold thereP at h
  have h := of_decide_eq_true h
  unfold keysP at h ⊢
  rw [List.getElem?_map] at h
  obtain ⟨⟨a, v⟩, h1, h2⟩ := Option.map_eq_some_iff.1 h
  simp only at h2
  subst h2
  exact ⟨v, h1⟩
theorem pf_take {l : List PairV} {i : Nat} (h : i ≤ l.length) : (pairR l).flatten.take (i * 2) = (pairR (l.take i)).flatten ∧ (pairR l).flatten.drop (i * 2) = (pairR (l.drop i)).flatten := by
  have e : pairR l = pairR (l.take i) ++ pairR (l.drop i) := by rw [← pairR_append, List.take_append_drop]
  have e3 : (pairR (l.take i)).flatten.length = i * 2 := by rw [pairR_flat_length, List.length_take, Nat.min_eq_left h]
  rw [e, List.flatten_append, List.take_left' e3, List.drop_left' e3]
  exact ⟨rfl, rfl⟩
def PB (p : PairV) : Prop := p.1.length ≤ 2147483648 ∧ p.2.length ≤ 2147483648
def oneOwn : ZSpec := fun args st K => ∃ (o : Option Nat) (c : Nat) (full : List D) (ps : List PairV) (m : MsgV), args = [orow o ps.length c, .agg (msgD m)] ∧ OwnA st [(o, full)] ∧ GRow o full 2 ps.length c (pairR ps).flatten ∧ Srt (keysP ps) ∧ ps.length ≤ 2147483647 ∧ (∀ p ∈ ps, PB p) ∧ MB m ∧
  ∀ o' c' f' st', Sep (bareL st [(o, full)]) st' [(o', f')] → GRow o' f' 2 (oneL ps m).length c' (pairR (oneL ps m)).flatten → K (orow o' (oneL ps m).length c') st'
end Go.Proofs.ZtLe
