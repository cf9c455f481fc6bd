/- A part of the proof of PosmBounds: walks of the functions that it reaches. No condition. -/
import Derived.Test.YtpelekdimmfldaaZtPoF
namespace Go.Proofs.ZtLe
open Go.RowKit Go.Proofs Go.Proofs.Zm
set_option linter.unusedVariables false
set_option linter.unusedSimpArgs false
set_option maxHeartbeats 20000000
attribute [local irreducible] ZWp ZOps ZPure ZPure0 ZVal ZOp SoundF

/-! ### plain -/
theorem rep_getD (N i : Nat) : (List.replicate N ((0 : Int), (0 : Int))).getD i (0, 0) = (0, 0) := by
  rw [List.getD_eq_getElem?_getD, List.getElem?_replicate]; split <;> rfl
theorem set_rep (N i : Nat) : (List.replicate N ((0 : Int), (0 : Int))).set i (0, 0) = List.replicate N (0, 0) := by
  apply List.ext_getElem?
  intro j
  rw [List.getElem?_set, List.getElem?_replicate]
  split
  · rename_i h; subst h; simp
  · rfl
theorem okM_rep (N : Nat) (id leaf : Int) : okM (List.replicate N (0, 0)) id leaf = decide (1 ≤ id ∧ id ≤ (N : Nat) ∧ 0 ≤ leaf ∧ leaf < 65536) := by
  unfold okM hasM
  apply decide_eq_decide.2
  simp only [decide_eq_true_eq, List.length_replicate]
  omega
theorem getM_set (N : Nat) (id leaf draw : Int) : getM (setM (List.replicate N (0, 0)) id leaf draw) id = if okM (List.replicate N (0, 0)) id leaf = true then some (leaf, draw) else none := by
  by_cases h : okM (List.replicate N (0, 0)) id leaf = true
  · have hh := of_decide_eq_true (show decide _ = true by rw [← okM_rep]; exact h)
    unfold setM
    rw [if_pos h, if_pos h]
    unfold getM hasM
    have hlt : (id - 1).toNat < N := by omega
    have hg : ((List.replicate N ((0 : Int), (0 : Int))).set (id - 1).toNat (leaf + 1, draw)).getD (id - 1).toNat (0, 0) = (leaf + 1, draw) := by
      rw [List.getD_eq_getElem?_getD, List.getElem?_set, if_pos rfl, if_pos (by simpa using hlt)]; rfl
    rw [hg, if_pos ⟨decide_eq_true (by simp; omega), by simp only; omega⟩]
    simp only [Option.some.injEq, Prod.mk.injEq, and_true]
    omega
  · unfold setM
    rw [if_neg h, if_neg h]
    unfold getM
    rw [rep_getD]
    simp
theorem clearM_set (N : Nat) (id leaf draw : Int) : clearM (setM (List.replicate N (0, 0)) id leaf draw) id = List.replicate N (0, 0) := by
  unfold clearM setM
  by_cases h : okM (List.replicate N (0, 0)) id leaf = true
  · rw [if_pos h]
    have hh := of_decide_eq_true (show decide _ = true by rw [← okM_rep]; exact h)
    rw [if_pos (by unfold hasM; exact decide_eq_true (by simp; omega)), List.set_set, set_rep]
  · rw [if_neg h]
    split
    · rw [set_rep]
    · rfl
theorem getM_rep (N : Nat) (id : Int) : getM (List.replicate N (0, 0)) id = none := by unfold getM; rw [rep_getD]; simp
theorem stateM_rep (N : Nat) : stateM (List.replicate N (0, 0)) = List.replicate (12 * N) 0 := by
  have h : putB 0 4 ++ putB 0 8 = List.replicate 12 0 := by decide +kernel
  induction N with
  | zero => unfold stateM; rfl
  | succ N ih =>
    rw [List.replicate_succ]
    unfold stateM at ih ⊢
    rw [List.flatMap_cons, ih, h, show 12 * (N + 1) = 12 + 12 * N by omega, ← List.replicate_append_replicate]
theorem okL_set (N : Nat) (id leaf draw : Int) (hN : N ≤ 10000) (h0 : 0 ≤ draw) (h1 : draw < 18446744073709551616) : okL (setM (List.replicate N (0, 0)) id leaf draw) := by
  refine ⟨fun q hq => ?_, by simp; omega⟩
  unfold setM at hq
  split at hq
  · rename_i h
    have hh := of_decide_eq_true (show decide _ = true by rw [← okM_rep]; exact h)
    rcases List.mem_or_eq_of_mem_set hq with hq | rfl
    · have := List.eq_of_mem_replicate hq; subst this; decide
    · simp only; omega
  · have := List.eq_of_mem_replicate hq; subst this; decide
theorem okL_rep (N : Nat) (hN : N ≤ 10000) : okL (List.replicate N (0, 0)) := ⟨fun q hq => by have := List.eq_of_mem_replicate hq; subst this; decide, by simpa using hN⟩
theorem newN_small (n : Int) (h0 : 0 ≤ n) (h1 : n ≤ 10000) : newN n = n.toNat := by unfold newN; omega

attribute [local irreducible] stateM loadM setM clearM getM okM hasM
def boundsSpec : ZSpec := fun args st K => ∃ (n id leaf draw : Int), args = [.v (.int .i64 n), .v (.int .i64 id), .v (.int .i64 leaf), .v (.int .u64 draw)] ∧ 0 ≤ draw ∧ draw < 18446744073709551616 ∧ K (.v (.bool true)) st
theorem bounds_snd : SoundF Try.prog 8 boundsSpec := by
  refine sound_ofE Try.func8 rfl Try.results8 ?_
  rintro w0 args st K ⟨n, id, leaf, draw, rfl, hd0, hd1, hK⟩
  rw [Try.ntmps8]; refine ⟨by simp, ?_⟩
  (repeat (first | ((with_reducible apply zr_seq)) | ((with_reducible apply zr_region); (try simp only [List.append_eq, List.cons_append, List.nil_append])) | ((with_reducible apply zo_end)) | ((with_reducible apply zs_move); (exact rfl); (exact rfl)) | ((with_reducible apply zs_assign); (exact rfl); (exact rfl))))
  (try ((with_reducible apply zs_yes); exact rfl; exact rfl; (first | assumption | exact rfl))); refine zo_pure0 rfl rfl (by decide) (zp_and rfl rfl rfl (and_mask 4 (by decide) (by decide) (by decide) _ _ _ rfl rfl)) ?_
  rw [show (2 : Int) ^ 4 = 16 from rfl]
  obtain ⟨N, hN⟩ : ∃ N : Nat, n % 16 = (N : Int) := ⟨(n % 16).toNat, by omega⟩
  have hN15 : N ≤ 15 := by omega
  rw [hN]
  (repeat (first | ((with_reducible apply zr_seq)) | ((with_reducible apply zr_region); (try simp only [List.append_eq, List.cons_append, List.nil_append])) | ((with_reducible apply zo_end)) | ((with_reducible apply zs_move); (exact rfl); (exact rfl)) | ((with_reducible apply zs_assign); (exact rfl); (exact rfl))))
  (try ((with_reducible apply zs_yes); exact rfl; exact rfl; (first | assumption | exact rfl))); refine zo_callU new_snd Try.func27 (by kernel_rfl) rfl rfl rfl rfl (by decide) rfl rfl (by first | exact Ups.nilrow 1 (Ups.nilrow 1 (Ups.nilrow 1 (Ups.refl _))) | exact Ups.nilrow 1 (Ups.nilrow 1 (Ups.refl _)) | exact Ups.same (Ups.nilrow 1 (Ups.nilrow 1 (Ups.refl _))) | exact Ups.nilrow 1 (Ups.same (Ups.nilrow 1 (Ups.refl _))) | exact Ups.nilrow 1 (Ups.refl _) | exact Ups.same (Ups.nilrow 1 (Ups.refl _)) | exact Ups.same (Ups.same (Ups.nilrow 1 (Ups.refl _))) | exact Ups.refl _) ?_
  refine ⟨_, rfl, fun p r hr hp => ?_⟩
  rw [newN_small _ (by omega) (by omega), Int.toNat_natCast] at hp ⊢
  have hM := new_at st p r (List.replicate N (0, 0)) hr hp
  rw [List.length_replicate] at hM
  have hrn := hr.1
  have hpn := ((Ext.refl st).fresh hr (some (posC (List.replicate N (0, 0))))).none hp.1
  have hext : Ext st ((st.setH r (some (posC (List.replicate N (0, 0))))).setH p (some [.mrow r 0 N N])) := ((Ext.refl st).setH hrn _).setH hpn _
  generalize ((st.setH r (some (posC (List.replicate N (0, 0))))).setH p (some [.mrow r 0 N N])) = s1 at *
  (repeat (first | ((with_reducible apply zr_seq)) | ((with_reducible apply zr_region); (try simp only [List.append_eq, List.cons_append, List.nil_append])) | ((with_reducible apply zo_end)) | ((with_reducible apply zs_move); (exact rfl); (exact rfl)) | ((with_reducible apply zs_assign); (exact rfl); (exact rfl))))
  (try ((with_reducible apply zs_yes); exact rfl; exact rfl; (first | assumption | exact rfl))); refine zo_pure0 rfl rfl (by decide) (zp_ptr_nil rfl rfl ptrP (.inl ⟨rfl, rfl⟩) (.inl ⟨_, _, rfl⟩)) ?_
  (repeat (first | ((with_reducible apply zr_seq)) | ((with_reducible apply zr_region); (try simp only [List.append_eq, List.cons_append, List.nil_append])) | ((with_reducible apply zo_end)) | ((with_reducible apply zs_move); (exact rfl); (exact rfl)) | ((with_reducible apply zr_cond_f); (exact rfl); (first | assumption | exact rfl)) | ((with_reducible apply zr_skip'))))
  (try ((with_reducible apply zs_yes); exact rfl; exact rfl; (first | assumption | exact rfl))); refine zo_pure0 rfl rfl (by decide) (zp_and rfl rfl rfl (and_mask 5 (by decide) (by decide) (by decide) _ _ _ rfl rfl)) ?_
  rw [show (2 : Int) ^ 5 = 32 from rfl]
  (repeat (first | ((with_reducible apply zs_move); (exact rfl); (exact rfl)) | ((with_reducible apply zs_sub); (exact rfl); (exact rfl); (exact rfl); (exact wrap_in64 (by omega) (by omega)))))
  (try ((with_reducible apply zs_yes); exact rfl; exact rfl; (first | assumption | exact rfl))); refine zo_pure0 rfl rfl (by decide) (zp_and rfl rfl rfl (and_mask 17 (by decide) (by decide) (by decide) _ _ _ rfl rfl)) ?_
  rw [show (2 : Int) ^ 17 = 131072 from rfl]
  (repeat (first | ((with_reducible apply zr_seq)) | ((with_reducible apply zr_region); (try simp only [List.append_eq, List.cons_append, List.nil_append])) | ((with_reducible apply zo_end)) | ((with_reducible apply zs_move); (exact rfl); (exact rfl)) | ((with_reducible apply zs_assign); (exact rfl); (exact rfl)) | ((with_reducible apply zs_sub); (exact rfl); (exact rfl); (exact rfl); (exact wrap_in64 (by omega) (by omega))) | ((with_reducible apply zs_build); (exact rfl); (first | exact el_Pos | exact el_Map); (first | exact st_Pos | exact st_Map); (exact rfl); (exact rfl))))
  obtain ⟨i, hi⟩ : ∃ i, id % 32 - 8 = i := ⟨_, rfl⟩
  obtain ⟨f, hf⟩ : ∃ f, leaf % 131072 - 100 = f := ⟨_, rfl⟩
  have hi0 : -8 ≤ i ∧ i ≤ 23 := by omega
  have hf0 : -100 ≤ f ∧ f ≤ 131000 := by omega
  rw [hi, hf]
  skip
  (try ((with_reducible apply zs_yes); exact rfl; exact rfl; (first | assumption | exact rfl))); refine zo_callU setM_snd Try.func28 (by kernel_rfl) rfl rfl rfl rfl (by decide) rfl rfl (by first | exact Ups.nilrow 1 (Ups.nilrow 1 (Ups.nilrow 1 (Ups.refl _))) | exact Ups.nilrow 1 (Ups.nilrow 1 (Ups.refl _)) | exact Ups.same (Ups.nilrow 1 (Ups.nilrow 1 (Ups.refl _))) | exact Ups.nilrow 1 (Ups.same (Ups.nilrow 1 (Ups.refl _))) | exact Ups.nilrow 1 (Ups.refl _) | exact Ups.same (Ups.nilrow 1 (Ups.refl _)) | exact Ups.same (Ups.same (Ups.nilrow 1 (Ups.refl _))) | exact Ups.refl _) ?_
  refine ⟨p, r, _, i, f, draw, rfl, by omega, by omega, hM, ?_⟩
  have hM2 := hM.set (setM (List.replicate N (0, 0)) i f draw) (by simp)
  have hext2 := hext.setH hrn (some (posC (setM (List.replicate N (0, 0)) i f draw)))
  have hg := getM_set N i f draw
  have hc := clearM_set N i f draw
  have hok := okM_rep N i f
  have hlen := stateM_length (setM (List.replicate N (0, 0)) i f draw)
  rw [setM_length, List.length_replicate] at hlen
  have hokL := okL_set N i f draw (by omega) hd0 hd1
  generalize setM (List.replicate N (0, 0)) i f draw = l at *
  generalize okM (List.replicate N (0, 0)) i f = ok at *
  generalize s1.setH r (some (posC l)) = s2 at *
  (repeat (first | ((with_reducible apply zr_seq)) | ((with_reducible apply zr_region); (try simp only [List.append_eq, List.cons_append, List.nil_append])) | ((with_reducible apply zo_end)) | ((with_reducible apply zs_move); (exact rfl); (exact rfl)) | ((with_reducible apply zs_assign); (exact rfl); (exact rfl)) | ((with_reducible apply zs_geq); (exact rfl); (exact rfl); (exact rfl))))
  refine zo_cut [(11, .v (.bool ok)), (0, .v (.int .i64 (N : Nat))), (1, .v (.int .i64 i)), (2, .v (.int .i64 f)), (3, .v (.int .u64 draw)), (9, .ptr p 0), (10, .v (.bool ok))] s2 ?_ ?_
  · have bad : ¬ (1 ≤ i ∧ i ≤ (N : Nat) ∧ 0 ≤ f ∧ f < 65536) → ok = false := fun h => by rw [hok]; exact decide_eq_false h
    by_cases c1 : 1 ≤ i
    · have g1 : decide (1 ≤ i) = true := decide_eq_true c1
      (repeat (first | ((with_reducible apply zs_yes); (exact rfl); (exact rfl); (first | assumption | exact rfl)) | ((with_reducible apply zs_move); (exact rfl); (exact rfl)) | ((with_reducible apply zs_leq); (exact rfl); (exact rfl); (exact rfl)) | ((with_reducible apply zs_pick_t); (exact rfl); (exact rfl); (first | assumption | exact rfl); (exact rfl))))
      by_cases c2 : i ≤ (N : Nat)
      · have g2 : decide (i ≤ (N : Nat)) = true := decide_eq_true c2
        (repeat (first | ((with_reducible apply zs_yes); (exact rfl); (exact rfl); (first | assumption | exact rfl)) | ((with_reducible apply zs_move); (exact rfl); (exact rfl)) | ((with_reducible apply zs_geq); (exact rfl); (exact rfl); (exact rfl)) | ((with_reducible apply zs_pick_t); (exact rfl); (exact rfl); (first | assumption | exact rfl); (exact rfl))))
        by_cases c3 : 0 ≤ f
        · have g3 : decide (0 ≤ f) = true := decide_eq_true c3
          (repeat (first | ((with_reducible apply zo_end)) | ((with_reducible apply zs_yes); (exact rfl); (exact rfl); (first | assumption | exact rfl)) | ((with_reducible apply zs_move); (exact rfl); (exact rfl)) | ((with_reducible apply zs_assign); (exact rfl); (exact rfl)) | ((with_reducible apply zs_lss); (exact rfl); (exact rfl); (exact rfl)) | ((with_reducible apply zs_pick_t); (exact rfl); (exact rfl); (first | assumption | exact rfl); (exact rfl))))
          by_cases c4 : f < 65536
          · have g4 : decide (f < 65536) = true := decide_eq_true c4
            have e : ok = true := by rw [hok]; exact decide_eq_true ⟨c1, c2, c3, c4⟩
            skip
            exact ⟨sub_cons (by rw [e, ← g4]; rfl) (by repeat (first | exact sub_nil _ | refine sub_cons rfl ?_ | refine sub_cons (by first | rfl | (simp [zlook]; done)) ?_)), rfl⟩
          · have g4 : decide (f < 65536) = false := decide_eq_false c4
            have e := bad (by omega)
            skip
            exact ⟨sub_cons (by rw [e, ← g4]; rfl) (by repeat (first | exact sub_nil _ | refine sub_cons rfl ?_ | refine sub_cons (by first | rfl | (simp [zlook]; done)) ?_)), rfl⟩
        · have g3 : decide (0 ≤ f) = false := decide_eq_false c3
          have e := bad (by omega)
          (repeat (first | ((with_reducible apply zo_end)) | ((with_reducible apply zs_noU); (exact rfl); (exact rfl); (first | assumption | exact rfl | (simp only [Bool.not_false, Bool.not_true]; assumption)); (exact rfl)) | ((with_reducible apply zs_assign); (exact rfl); (exact rfl)) | ((with_reducible apply zs_pick_f); (exact rfl); (exact rfl); (first | assumption | exact rfl); (exact rfl))))
          exact ⟨sub_cons (by rw [e, ← g3]; rfl) (by repeat (first | exact sub_nil _ | refine sub_cons rfl ?_ | refine sub_cons (by first | rfl | (simp [zlook]; done)) ?_)), rfl⟩
      · have g2 : decide (i ≤ (N : Nat)) = false := decide_eq_false c2
        have e := bad (by omega)
        (repeat (first | ((with_reducible apply zo_end)) | ((with_reducible apply zs_noU); (exact rfl); (exact rfl); (first | assumption | exact rfl | (simp only [Bool.not_false, Bool.not_true]; assumption)); (exact rfl)) | ((with_reducible apply zs_move); (exact rfl); (exact rfl)) | ((with_reducible apply zs_assign); (exact rfl); (exact rfl)) | ((with_reducible apply zs_pick_f); (exact rfl); (exact rfl); (first | assumption | exact rfl); (exact rfl))))
        exact ⟨sub_cons (by rw [e, ← g2]; rfl) (by repeat (first | exact sub_nil _ | refine sub_cons rfl ?_ | refine sub_cons (by first | rfl | (simp [zlook]; done)) ?_)), rfl⟩
    · have g1 : decide (1 ≤ i) = false := decide_eq_false c1
      have e := bad (by omega)
      (repeat (first | ((with_reducible apply zo_end)) | ((with_reducible apply zs_noU); (exact rfl); (exact rfl); (first | assumption | exact rfl | (simp only [Bool.not_false, Bool.not_true]; assumption)); (exact rfl)) | ((with_reducible apply zs_move); (exact rfl); (exact rfl)) | ((with_reducible apply zs_assign); (exact rfl); (exact rfl)) | ((with_reducible apply zs_pick_f); (exact rfl); (exact rfl); (first | assumption | exact rfl); (exact rfl))))
      exact ⟨sub_cons (by rw [e, ← g1]; rfl) (by repeat (first | exact sub_nil _ | refine sub_cons rfl ?_ | refine sub_cons (by first | rfl | (simp [zlook]; done)) ?_)), rfl⟩
  (repeat (first | ((with_reducible apply zr_seq)) | ((with_reducible apply zr_region); (try simp only [List.append_eq, List.cons_append, List.nil_append])) | ((with_reducible apply zs_move); (exact rfl); (exact rfl))))
  (try ((with_reducible apply zs_yes); exact rfl; exact rfl; (first | assumption | exact rfl))); refine zo_callU getM_snd Try.func29 (by kernel_rfl) rfl rfl rfl rfl (by decide) rfl rfl (by first | exact Ups.nilrow 1 (Ups.nilrow 1 (Ups.nilrow 1 (Ups.refl _))) | exact Ups.nilrow 1 (Ups.nilrow 1 (Ups.refl _)) | exact Ups.same (Ups.nilrow 1 (Ups.nilrow 1 (Ups.refl _))) | exact Ups.nilrow 1 (Ups.same (Ups.nilrow 1 (Ups.refl _))) | exact Ups.nilrow 1 (Ups.refl _) | exact Ups.same (Ups.nilrow 1 (Ups.refl _)) | exact Ups.same (Ups.same (Ups.nilrow 1 (Ups.refl _))) | exact Ups.refl _) ?_
  refine ⟨p, r, _, i, rfl, by omega, by omega, fun q hq => ⟨(hokL.1 q hq).1, (hokL.1 q hq).2.1⟩, hM2, ?_⟩
  rw [hg]
  obtain ⟨q, hq⟩ : ∃ q, (if ok = true then some (f, draw) else none).getD (0, 0) = q := ⟨_, rfl⟩
  have hqt : ok = true → q = (f, draw) := fun h => by rw [← hq, h]; rfl
  rw [hq, show (if ok = true then some (f, draw) else none).isSome = ok by cases ok <;> rfl]
  (repeat (first | ((with_reducible apply zs_move); (exact rfl); (exact rfl)) | ((with_reducible apply zs_extract); (exact rfl); (exact rfl); (exact rfl))))
  (try ((with_reducible apply zs_yes); exact rfl; exact rfl; (first | assumption | exact rfl))); refine zo_val rfl rfl (by decide) (zv_alloc rfl el_Pos (by simp [oneD, Value.oneCell']) fun a ha => ?_)
  refine zs_store rfl rfl sh_Pos (St.setH_self _ _ _) rfl (by simp [cellsD, oneD, Value.oneCell', posD]) (by simp [cellsD]) rfl ?_
  rw [St.setH_setH]
  refine zo_freeze (id := a) [(54, .v (.bool ok)), (0, .v (.int .i64 (N : Nat))), (1, .v (.int .i64 i)), (2, .v (.int .i64 f)), (3, .v (.int .u64 draw)), (9, .ptr p 0), (10, .v (.bool ok)), (11, .v (.bool ok)), (12, .ref [.v (.int .i64 q.1), .v (.int .u64 q.2)])] (St.setH_self _ _ _)
    (fz_cons rfl (.same _) (fz_cons rfl (.same _) (fz_cons rfl (.same _) (fz_cons rfl (.same _) (fz_cons rfl (.same _) (fz_cons rfl (.same _) (fz_cons rfl (.same _) (fz_cons rfl (.same _) (fz_cons rfl (.ptr 0) fz_nil))))))))) ?_
  rw [St.setH_setH, St.setH_none ha.1]
  (repeat (first | ((with_reducible apply zr_seq)) | ((with_reducible apply zr_region); (try simp only [List.append_eq, List.cons_append, List.nil_append])) | ((with_reducible apply zo_end)) | ((with_reducible apply zs_move); (exact rfl); (exact rfl)) | ((with_reducible apply zs_assign); (exact rfl); (exact rfl))))
  refine zo_cut [(80, .v (.bool false)), (0, .v (.int .i64 (N : Nat))), (1, .v (.int .i64 i)), (9, .ptr p 0)] s2 ?_ ?_
  · (try ((with_reducible apply zs_yes); exact rfl; exact rfl; (first | assumption | exact rfl))); refine zo_pure0 rfl rfl (by decide) (zp_beq (r := false) rfl rfl rfl Try.underlying4 (.inr ⟨rfl, by simp⟩)) ?_
    (repeat (first | ((with_reducible apply zs_yes); (exact rfl); (exact rfl); (first | assumption | exact rfl)) | ((with_reducible apply zs_move); (exact rfl); (exact rfl))))
    (try ((with_reducible apply zs_yes); exact rfl; exact rfl; (first | assumption | exact rfl))); refine zo_pure0 rfl rfl (by decide) (zp_beq (r := false) rfl rfl rfl Try.underlying4 (.inr ⟨rfl, by simp⟩)) ?_
    (repeat (first | ((with_reducible apply zs_yes); (exact rfl); (exact rfl); (first | assumption | exact rfl)) | ((with_reducible apply zs_move); (exact rfl); (exact rfl)) | ((with_reducible apply zs_pick_f); (exact rfl); (exact rfl); (first | assumption | exact rfl); (exact rfl))))
    cases ok
    · (repeat (first | ((with_reducible apply zs_yes); (exact rfl); (exact rfl); (first | assumption | exact rfl)) | ((with_reducible apply zs_noU); (exact rfl); (exact rfl); (first | assumption | exact rfl | (simp only [Bool.not_false, Bool.not_true]; assumption)); (exact rfl)) | ((with_reducible apply zs_move); (exact rfl); (exact rfl)) | ((with_reducible apply zs_pick_f); (exact rfl); (exact rfl); (first | assumption | exact rfl); (exact rfl))))
      (try ((with_reducible apply zs_yes); exact rfl; exact rfl; (first | assumption | exact rfl))); refine zo_callU state_snd Try.func30 (by kernel_rfl) rfl rfl rfl rfl (by decide) rfl rfl (by first | exact Ups.nilrow 1 (Ups.nilrow 1 (Ups.nilrow 1 (Ups.refl _))) | exact Ups.nilrow 1 (Ups.nilrow 1 (Ups.refl _)) | exact Ups.same (Ups.nilrow 1 (Ups.nilrow 1 (Ups.refl _))) | exact Ups.nilrow 1 (Ups.same (Ups.nilrow 1 (Ups.refl _))) | exact Ups.nilrow 1 (Ups.refl _) | exact Ups.same (Ups.nilrow 1 (Ups.refl _)) | exact Ups.same (Ups.same (Ups.nilrow 1 (Ups.refl _))) | exact Ups.refl _) ?_
      refine ⟨p, r, _, rfl, hokL, hM2, ?_⟩
      (repeat (first | ((with_reducible apply zs_yes); (exact rfl); (exact rfl); (first | assumption | exact rfl)) | ((with_reducible apply zs_move); (exact rfl); (exact rfl)) | ((with_reducible apply zs_lenB); (exact rfl); (exact rfl); (exact (by first | exact Try.underlying22 | exact Try.underlying47 | exact Try.underlying50 | exact Try.underlying59 | exact Try.underlying61 | exact Try.underlying73 | exact Try.underlying74 | exact Try.underlying78)))))
      (try ((with_reducible apply zs_yes); exact rfl; exact rfl; (first | assumption | exact rfl))); refine zo_pure0 rfl rfl (by decide) (zp_mul rfl rfl rfl (wrap_in64 (by omega) (by omega))) ?_
      have g9 : decide (((stateM l).length : Int) ≠ 12 * (N : Nat)) = false := decide_eq_false (by omega)
      (repeat (first | ((with_reducible apply zo_end)) | ((with_reducible apply zs_yes); (exact rfl); (exact rfl); (first | assumption | exact rfl)) | ((with_reducible apply zs_neq); (exact rfl); (exact rfl); (exact rfl)) | ((with_reducible apply zs_pick_f); (exact rfl); (exact rfl); (first | assumption | exact rfl); (exact rfl))))
      exact ⟨sub_cons (congrArg (fun b => some (D.v (Value.bool b))) g9) (by repeat (first | exact sub_nil _ | refine sub_cons rfl ?_ | refine sub_cons (by first | rfl | (simp [zlook]; done)) ?_)), rfl⟩
    · rw [hqt rfl]
      (repeat (first | ((with_reducible apply zs_yes); (exact rfl); (exact rfl); (first | assumption | exact rfl)) | ((with_reducible apply zs_move); (exact rfl); (exact rfl)) | ((with_reducible apply zs_load_refA); (exact rfl); (exact rfl); (first | exact sh_Pos | exact sh_Map); (exact rfl)) | ((with_reducible apply zs_build); (exact rfl); (first | exact el_Pos | exact el_Map); (first | exact st_Pos | exact st_Map); (exact rfl); (exact rfl))))
      (try ((with_reducible apply zs_yes); exact rfl; exact rfl; (first | assumption | exact rfl))); refine zo_pure0 rfl rfl (by decide) (zp_eqPos (p := (f, draw)) (q := (f, draw)) rfl rfl rfl (.inr rfl)) ?_
      rw [show (if BinOp.neq = BinOp.eql then decide ((f, draw) = (f, draw)) else !decide ((f, draw) = (f, draw))) = false by simp]
      (repeat (first | ((with_reducible apply zs_yes); (exact rfl); (exact rfl); (first | assumption | exact rfl)) | ((with_reducible apply zs_move); (exact rfl); (exact rfl)) | ((with_reducible apply zs_pick_t); (exact rfl); (exact rfl); (first | assumption | exact rfl); (exact rfl)) | ((with_reducible apply zs_pick_f); (exact rfl); (exact rfl); (first | assumption | exact rfl); (exact rfl))))
      (try ((with_reducible apply zs_yes); exact rfl; exact rfl; (first | assumption | exact rfl))); refine zo_callU state_snd Try.func30 (by kernel_rfl) rfl rfl rfl rfl (by decide) rfl rfl (by first | exact Ups.nilrow 1 (Ups.nilrow 1 (Ups.nilrow 1 (Ups.refl _))) | exact Ups.nilrow 1 (Ups.nilrow 1 (Ups.refl _)) | exact Ups.same (Ups.nilrow 1 (Ups.nilrow 1 (Ups.refl _))) | exact Ups.nilrow 1 (Ups.same (Ups.nilrow 1 (Ups.refl _))) | exact Ups.nilrow 1 (Ups.refl _) | exact Ups.same (Ups.nilrow 1 (Ups.refl _)) | exact Ups.same (Ups.same (Ups.nilrow 1 (Ups.refl _))) | exact Ups.refl _) ?_
      refine ⟨p, r, _, rfl, hokL, hM2, ?_⟩
      (repeat (first | ((with_reducible apply zs_yes); (exact rfl); (exact rfl); (first | assumption | exact rfl)) | ((with_reducible apply zs_move); (exact rfl); (exact rfl)) | ((with_reducible apply zs_lenB); (exact rfl); (exact rfl); (exact (by first | exact Try.underlying22 | exact Try.underlying47 | exact Try.underlying50 | exact Try.underlying59 | exact Try.underlying61 | exact Try.underlying73 | exact Try.underlying74 | exact Try.underlying78)))))
      (try ((with_reducible apply zs_yes); exact rfl; exact rfl; (first | assumption | exact rfl))); refine zo_pure0 rfl rfl (by decide) (zp_mul rfl rfl rfl (wrap_in64 (by omega) (by omega))) ?_
      have g9 : decide (((stateM l).length : Int) ≠ 12 * (N : Nat)) = false := decide_eq_false (by omega)
      (repeat (first | ((with_reducible apply zo_end)) | ((with_reducible apply zs_yes); (exact rfl); (exact rfl); (first | assumption | exact rfl)) | ((with_reducible apply zs_neq); (exact rfl); (exact rfl); (exact rfl)) | ((with_reducible apply zs_pick_f); (exact rfl); (exact rfl); (first | assumption | exact rfl); (exact rfl))))
      exact ⟨sub_cons (congrArg (fun b => some (D.v (Value.bool b))) g9) (by repeat (first | exact sub_nil _ | refine sub_cons rfl ?_ | refine sub_cons (by first | rfl | (simp [zlook]; done)) ?_)), rfl⟩
  (repeat (first | ((with_reducible apply zr_seq)) | ((with_reducible apply zr_region); (try simp only [List.append_eq, List.cons_append, List.nil_append])) | ((with_reducible apply zs_move); (exact rfl); (exact rfl)) | ((with_reducible apply zr_cond_f); (exact rfl); (first | assumption | exact rfl)) | ((with_reducible apply zr_skip'))))
  (try ((with_reducible apply zs_yes); exact rfl; exact rfl; (first | assumption | exact rfl))); refine zo_callU clear_snd Try.func31 (by kernel_rfl) rfl rfl rfl rfl (by decide) rfl rfl (by first | exact Ups.nilrow 1 (Ups.nilrow 1 (Ups.nilrow 1 (Ups.refl _))) | exact Ups.nilrow 1 (Ups.nilrow 1 (Ups.refl _)) | exact Ups.same (Ups.nilrow 1 (Ups.nilrow 1 (Ups.refl _))) | exact Ups.nilrow 1 (Ups.same (Ups.nilrow 1 (Ups.refl _))) | exact Ups.nilrow 1 (Ups.refl _) | exact Ups.same (Ups.nilrow 1 (Ups.refl _)) | exact Ups.same (Ups.same (Ups.nilrow 1 (Ups.refl _))) | exact Ups.refl _) ?_
  refine ⟨p, r, _, i, rfl, by omega, by omega, hM2, ?_⟩
  rw [hc]
  have hM3 := hM2.set (List.replicate N (0, 0)) (by rw [← hc]; simp)
  have hext3 := hext2.setH hrn (some (posC (List.replicate N (0, 0))))
  generalize s2.setH r _ = s3 at *
  (repeat (first | ((with_reducible apply zr_seq)) | ((with_reducible apply zr_region); (try simp only [List.append_eq, List.cons_append, List.nil_append])) | ((with_reducible apply zo_end)) | ((with_reducible apply zs_move); (exact rfl); (exact rfl))))
  (try ((with_reducible apply zs_yes); exact rfl; exact rfl; (first | assumption | exact rfl))); refine zo_callU getM_snd Try.func29 (by kernel_rfl) rfl rfl rfl rfl (by decide) rfl rfl (by first | exact Ups.nilrow 1 (Ups.nilrow 1 (Ups.nilrow 1 (Ups.refl _))) | exact Ups.nilrow 1 (Ups.nilrow 1 (Ups.refl _)) | exact Ups.same (Ups.nilrow 1 (Ups.nilrow 1 (Ups.refl _))) | exact Ups.nilrow 1 (Ups.same (Ups.nilrow 1 (Ups.refl _))) | exact Ups.nilrow 1 (Ups.refl _) | exact Ups.same (Ups.nilrow 1 (Ups.refl _)) | exact Ups.same (Ups.same (Ups.nilrow 1 (Ups.refl _))) | exact Ups.refl _) ?_
  refine ⟨p, r, _, i, rfl, by omega, by omega, fun q hq => by have := List.eq_of_mem_replicate hq; subst this; decide, hM3, ?_⟩
  rw [getM_rep]
  (repeat (first | ((with_reducible apply zs_move); (exact rfl); (exact rfl)) | ((with_reducible apply zs_extract); (exact rfl); (exact rfl); (exact rfl))))
  (try ((with_reducible apply zs_yes); exact rfl; exact rfl; (first | assumption | exact rfl))); refine zo_val rfl rfl (by decide) (zv_alloc rfl el_Pos (by simp [oneD, Value.oneCell']) fun b hb => ?_)
  refine zs_store rfl rfl sh_Pos (St.setH_self _ _ _) rfl (by simp [cellsD, oneD, Value.oneCell', posD]) (by simp [cellsD]) rfl ?_
  rw [St.setH_setH]
  refine zo_ext s3 ((Ext.refl s3).fresh hb _) ?_
  (repeat (first | ((with_reducible apply zr_seq)) | ((with_reducible apply zo_end)) | ((with_reducible apply zs_assign); (exact rfl); (exact rfl))))
  refine za_begin (m := 16) (by kernel_rfl) rfl ?_
  refine za_take (i := 0) rfl (by kernel_rfl) (by kernel_rfl) (by kernel_rfl) (by first | exact g_none rfl | exact g_met rfl rfl rfl (by first | assumption | rfl)) rfl rfl (ZPure0.pure (zp_move rfl rfl)) ?_
  refine za_take (i := 1) rfl (by kernel_rfl) (by kernel_rfl) (by kernel_rfl) (by first | exact g_none rfl | exact g_met rfl rfl rfl (by first | assumption | rfl)) rfl rfl (ZPure0.pure (zp_not rfl rfl)) ?_
  refine za_take (i := 2) rfl (by kernel_rfl) (by kernel_rfl) (by kernel_rfl) (by first | exact g_none rfl | exact g_met rfl rfl rfl (by first | assumption | rfl)) rfl rfl (ZPure0.pure (zp_move rfl rfl)) ?_
  first | refine za_take (i := 3) rfl (by kernel_rfl) (by kernel_rfl) (by kernel_rfl) (by first | exact g_none rfl | exact g_met rfl rfl rfl (by first | assumption | rfl)) rfl rfl (ZPure0.pure (zp_move rfl rfl)) ?_ | refine za_notU (i := 3) rfl (by kernel_rfl) (by kernel_rfl) (by kernel_rfl) (by first | exact .inl (g_not rfl rfl rfl (by first | assumption | rfl | (simp only [Bool.not_false, Bool.not_true]; assumption))) | exact .inr ⟨_, _, _, rfl, rfl, rfl⟩) rfl ?_
  first | refine za_take (i := 6) rfl (by kernel_rfl) (by kernel_rfl) (by kernel_rfl) (by first | exact g_none rfl | exact g_met rfl rfl rfl (by first | assumption | rfl)) rfl rfl (ZPure0.pure (zp_move rfl rfl)) ?_ | refine za_notU (i := 6) rfl (by kernel_rfl) (by kernel_rfl) (by kernel_rfl) (by first | exact .inl (g_not rfl rfl rfl (by first | assumption | rfl | (simp only [Bool.not_false, Bool.not_true]; assumption))) | exact .inr ⟨_, _, _, rfl, rfl, rfl⟩) rfl ?_
  refine za_take (i := 7) rfl (by kernel_rfl) (by kernel_rfl) (by kernel_rfl) (by first | exact g_none rfl | exact g_met rfl rfl rfl (by first | assumption | rfl)) rfl rfl (ZPure0.pure (zp_mul rfl rfl rfl (wrap_in64 (by omega) (by omega)))) ?_
  have hS := stateM_rep N
  have e12 : (12 : Int) * (N : Nat) = ((12 * N : Nat) : Int) := by omega
  rw [e12]
  refine za_all2 (i := 4) (j := 8) (by kernel_rfl) ?_ ?_
  · refine zone_op (i := 4) rfl (by first | exact g_none rfl | exact g_met rfl rfl rfl (by first | assumption | rfl)) ?_
    refine zop_callU state_snd Try.func30 (by kernel_rfl) rfl rfl rfl (by decide) rfl rfl (by first | exact Ups.nilrow 1 (Ups.nilrow 1 (Ups.nilrow 1 (Ups.refl _))) | exact Ups.nilrow 1 (Ups.nilrow 1 (Ups.refl _)) | exact Ups.same (Ups.nilrow 1 (Ups.nilrow 1 (Ups.refl _))) | exact Ups.nilrow 1 (Ups.same (Ups.nilrow 1 (Ups.refl _))) | exact Ups.nilrow 1 (Ups.refl _) | exact Ups.same (Ups.nilrow 1 (Ups.refl _)) | exact Ups.same (Ups.same (Ups.nilrow 1 (Ups.refl _))) | exact Ups.refl _) ?_
    refine ⟨p, r, _, rfl, okL_rep N (by omega), hM3, ?_⟩
    rw [hS]
    refine za_take (i := 5) rfl (by kernel_rfl) (by kernel_rfl) (by kernel_rfl) (by first | exact g_none rfl | exact g_met rfl rfl rfl (by first | assumption | rfl)) rfl rfl (zp_toStr rfl (by first | exact Try.underlying22 | exact Try.underlying47 | exact Try.underlying50 | exact Try.underlying59 | exact Try.underlying61 | exact Try.underlying73 | exact Try.underlying74 | exact Try.underlying78) Try.underlying5 Try.underlying9 rfl) ?_
    refine za_one_val (i := 8) (by kernel_rfl) rfl (by first | exact g_none rfl | exact g_met rfl rfl rfl (by first | assumption | rfl)) rfl rfl (zv_make rfl el5 (by simp [oneD, Value.oneCell']) (by first | exact Try.underlying22 | exact Try.underlying47 | exact Try.underlying50 | exact Try.underlying59 | exact Try.underlying61 | exact Try.underlying73 | exact Try.underlying74 | exact Try.underlying78) rfl rfl (by omega) (by omega) (by simp; omega) fun t ht ht0 => ?_)
    rw [zeros, Int.toNat_natCast]
    refine za_take (i := 9) rfl (by kernel_rfl) (by kernel_rfl) (by kernel_rfl) (by first | exact g_none rfl | exact g_met rfl rfl rfl (by first | assumption | rfl)) rfl rfl (zp_toStr rfl (by first | exact Try.underlying22 | exact Try.underlying47 | exact Try.underlying50 | exact Try.underlying59 | exact Try.underlying61 | exact Try.underlying73 | exact Try.underlying74 | exact Try.underlying78) Try.underlying5 Try.underlying9 rfl) ?_
    refine za_take (i := 10) rfl (by kernel_rfl) (by kernel_rfl) (by kernel_rfl) (by first | exact g_none rfl | exact g_met rfl rfl rfl (by first | assumption | rfl)) rfl rfl (ZPure0.pure (zp_streq (r := true) rfl rfl rfl (.inl ⟨rfl, by simp⟩))) ?_
    refine za_take (i := 11) rfl (by kernel_rfl) (by kernel_rfl) (by kernel_rfl) (by first | exact g_none rfl | exact g_met rfl rfl rfl (by first | assumption | rfl)) rfl rfl (by first | exact ZPure0.pure (zp_pick_t rfl rfl (by first | assumption | rfl) rfl) | exact ZPure0.pure (zp_pick_f rfl rfl (by first | assumption | rfl) rfl)) ?_
    refine za_take (i := 12) rfl (by kernel_rfl) (by kernel_rfl) (by kernel_rfl) (by first | exact g_none rfl | exact g_met rfl rfl rfl (by first | assumption | rfl)) rfl rfl (ZPure0.pure (zp_move rfl rfl)) ?_
    refine za_one (i := 13) (by kernel_rfl) rfl (by first | exact g_none rfl | exact g_met rfl rfl rfl (by first | assumption | rfl)) (zop_callU awake16_snd Try.func32 (by kernel_rfl) rfl rfl rfl (by decide) rfl rfl (by first | exact Ups.nilrow 1 (Ups.nilrow 1 (Ups.nilrow 1 (Ups.refl _))) | exact Ups.nilrow 1 (Ups.nilrow 1 (Ups.refl _)) | exact Ups.same (Ups.nilrow 1 (Ups.nilrow 1 (Ups.refl _))) | exact Ups.nilrow 1 (Ups.same (Ups.nilrow 1 (Ups.refl _))) | exact Ups.nilrow 1 (Ups.refl _) | exact Ups.same (Ups.nilrow 1 (Ups.refl _)) | exact Ups.same (Ups.same (Ups.nilrow 1 (Ups.refl _))) | exact Ups.refl _) ?_)
    refine ⟨rfl, ?_⟩
    refine za_take (i := 14) rfl (by kernel_rfl) (by kernel_rfl) (by kernel_rfl) (by first | exact g_none rfl | exact g_met rfl rfl rfl (by first | assumption | rfl)) rfl rfl (by first | exact ZPure0.pure (zp_pick_t rfl rfl (by first | assumption | rfl) rfl) | exact ZPure0.pure (zp_pick_f rfl rfl (by first | assumption | rfl) rfl)) ?_
    refine za_take (i := 15) rfl (by kernel_rfl) (by kernel_rfl) (by kernel_rfl) (by first | exact g_none rfl | exact g_met rfl rfl rfl (by first | assumption | rfl)) rfl rfl (ZPure0.pure (zp_assign rfl rfl)) ?_
    first | refine za_end (by kernel_rfl) ?_ | refine za_endB (by kernel_rfl) ?_ | refine za_endBB (by kernel_rfl) ?_
    skip
    refine zr_retZ rfl (resD_tmp rfl (resD_nil _ _ _)) ?_
    exact KE.mk st (hext3.setT _) hK
  · refine zone_op (i := 8) rfl (by first | exact g_none rfl | exact g_met rfl rfl rfl (by first | assumption | rfl)) ?_
    refine ZVal.op rfl (by decide) (zv_make rfl el5 (by simp [oneD, Value.oneCell']) (by first | exact Try.underlying22 | exact Try.underlying47 | exact Try.underlying50 | exact Try.underlying59 | exact Try.underlying61 | exact Try.underlying73 | exact Try.underlying74 | exact Try.underlying78) rfl rfl (by omega) (by omega) (by simp; omega) fun t ht ht0 => ?_)
    rw [zeros, Int.toNat_natCast]
    refine za_take (i := 9) rfl (by kernel_rfl) (by kernel_rfl) (by kernel_rfl) (by first | exact g_none rfl | exact g_met rfl rfl rfl (by first | assumption | rfl)) rfl rfl (zp_toStr rfl (by first | exact Try.underlying22 | exact Try.underlying47 | exact Try.underlying50 | exact Try.underlying59 | exact Try.underlying61 | exact Try.underlying73 | exact Try.underlying74 | exact Try.underlying78) Try.underlying5 Try.underlying9 rfl) ?_
    refine za_one (i := 4) (by kernel_rfl) rfl (by first | exact g_none rfl | exact g_met rfl rfl rfl (by first | assumption | rfl)) (zop_callU state_snd Try.func30 (by kernel_rfl) rfl rfl rfl (by decide) rfl rfl (by first | exact Ups.nilrow 1 (Ups.nilrow 1 (Ups.nilrow 1 (Ups.refl _))) | exact Ups.nilrow 1 (Ups.nilrow 1 (Ups.refl _)) | exact Ups.same (Ups.nilrow 1 (Ups.nilrow 1 (Ups.refl _))) | exact Ups.nilrow 1 (Ups.same (Ups.nilrow 1 (Ups.refl _))) | exact Ups.nilrow 1 (Ups.refl _) | exact Ups.same (Ups.nilrow 1 (Ups.refl _)) | exact Ups.same (Ups.same (Ups.nilrow 1 (Ups.refl _))) | exact Ups.refl _) ?_)
    refine ⟨p, r, _, rfl, okL_rep N (by omega), ⟨hM3.ne, hM3.hp, hM3.hr⟩, ?_⟩
    rw [hS]
    refine za_take (i := 5) rfl (by kernel_rfl) (by kernel_rfl) (by kernel_rfl) (by first | exact g_none rfl | exact g_met rfl rfl rfl (by first | assumption | rfl)) rfl rfl (zp_toStr rfl (by first | exact Try.underlying22 | exact Try.underlying47 | exact Try.underlying50 | exact Try.underlying59 | exact Try.underlying61 | exact Try.underlying73 | exact Try.underlying74 | exact Try.underlying78) Try.underlying5 Try.underlying9 rfl) ?_
    refine za_take (i := 10) rfl (by kernel_rfl) (by kernel_rfl) (by kernel_rfl) (by first | exact g_none rfl | exact g_met rfl rfl rfl (by first | assumption | rfl)) rfl rfl (ZPure0.pure (zp_streq (r := true) rfl rfl rfl (.inl ⟨rfl, by simp⟩))) ?_
    refine za_take (i := 11) rfl (by kernel_rfl) (by kernel_rfl) (by kernel_rfl) (by first | exact g_none rfl | exact g_met rfl rfl rfl (by first | assumption | rfl)) rfl rfl (by first | exact ZPure0.pure (zp_pick_t rfl rfl (by first | assumption | rfl) rfl) | exact ZPure0.pure (zp_pick_f rfl rfl (by first | assumption | rfl) rfl)) ?_
    refine za_take (i := 12) rfl (by kernel_rfl) (by kernel_rfl) (by kernel_rfl) (by first | exact g_none rfl | exact g_met rfl rfl rfl (by first | assumption | rfl)) rfl rfl (ZPure0.pure (zp_move rfl rfl)) ?_
    refine za_one (i := 13) (by kernel_rfl) rfl (by first | exact g_none rfl | exact g_met rfl rfl rfl (by first | assumption | rfl)) (zop_callU awake16_snd Try.func32 (by kernel_rfl) rfl rfl rfl (by decide) rfl rfl (by first | exact Ups.nilrow 1 (Ups.nilrow 1 (Ups.nilrow 1 (Ups.refl _))) | exact Ups.nilrow 1 (Ups.nilrow 1 (Ups.refl _)) | exact Ups.same (Ups.nilrow 1 (Ups.nilrow 1 (Ups.refl _))) | exact Ups.nilrow 1 (Ups.same (Ups.nilrow 1 (Ups.refl _))) | exact Ups.nilrow 1 (Ups.refl _) | exact Ups.same (Ups.nilrow 1 (Ups.refl _)) | exact Ups.same (Ups.same (Ups.nilrow 1 (Ups.refl _))) | exact Ups.refl _) ?_)
    refine ⟨rfl, ?_⟩
    refine za_take (i := 14) rfl (by kernel_rfl) (by kernel_rfl) (by kernel_rfl) (by first | exact g_none rfl | exact g_met rfl rfl rfl (by first | assumption | rfl)) rfl rfl (by first | exact ZPure0.pure (zp_pick_t rfl rfl (by first | assumption | rfl) rfl) | exact ZPure0.pure (zp_pick_f rfl rfl (by first | assumption | rfl) rfl)) ?_
    refine za_take (i := 15) rfl (by kernel_rfl) (by kernel_rfl) (by kernel_rfl) (by first | exact g_none rfl | exact g_met rfl rfl rfl (by first | assumption | rfl)) rfl rfl (ZPure0.pure (zp_assign rfl rfl)) ?_
    first | refine za_end (by kernel_rfl) ?_ | refine za_endB (by kernel_rfl) ?_ | refine za_endBB (by kernel_rfl) ?_
    skip
    refine zr_retZ rfl (resD_tmp rfl (resD_nil _ _ _)) ?_
    exact KE.mk st (hext3.setT _) hK
end Go.Proofs.ZtLe
