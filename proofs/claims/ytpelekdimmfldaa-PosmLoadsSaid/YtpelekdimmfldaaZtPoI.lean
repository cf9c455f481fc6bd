/- A part of the proof of PosmLoads: walks of the functions that it reaches. No condition. -/
import Derived.Test.YtpelekdimmfldaaZtPoH
import Derived.Test.YtpelekdimmfldaaZtCl
namespace Go.Proofs.ZtLe
open Go.RowKit Go.Proofs Go.Proofs.Zm
set_option linter.unusedVariables false
set_option linter.unusedSimpArgs false
set_option maxHeartbeats 20000000
attribute [local irreducible] ZWp ZOps ZPure ZPure0 ZVal ZOp SoundF

theorem MapAt.load {st : St} {p r : Nat} {l : PL} (h : MapAt st p r l) {r' : Nat} (hf : Fresh st r') (l' : PL) : MapAt ((st.setH r' (some (posC l'))).setH p (some [.mrow r' 0 l'.length l'.length])) p r' l' := by
  have hne : p ≠ r' := fun e => by have h1 := h.hp; have h2 := hf.1; rw [e, h2] at h1; cases h1
  exact ⟨hne, St.setH_self _ _ _, St.setH_ne (St.setH_self _ _ _) (Ne.symm hne)⟩
/-- The row of states, by hand. -/
def badS (s : List UInt8) : List (List UInt8) := [[], s.take 23, s ++ [0], s.take 12 ++ [0, 0, 0, 0, 1, 0, 0, 0, 0, 0, 0, 0], s.take 12 ++ [1, 0, 1, 0, 0, 0, 0, 0, 0, 0, 0, 0]]
theorem bad_none (a d : Int) (j : Nat) (hj : j < 5) (h0 : 0 ≤ a) (h1 : a < 4294967296) (h2 : 0 ≤ d) (h3 : d < 18446744073709551616) :
    loadM 2 ((badS (putB a 4 ++ putB d 8 ++ List.replicate 12 0)).getD j []) = none := by
  have hl : (putB a 4 ++ putB d 8).length = 12 := by rw [List.length_append, putB4_length, putB8_length]
  have ht : (putB a 4 ++ putB d 8 ++ List.replicate 12 0).take 12 = putB a 4 ++ putB d 8 := by
    rw [List.take_append_of_le_length (by omega), List.take_of_length_le (by omega)]
  unfold badS
  rw [ht]
  match j, hj with
  | 0, _ => exact loadM_len _ _ (by simp)
  | 1, _ => exact loadM_len _ _ (by simp [putB4_length, putB8_length])
  | 2, _ => exact loadM_len _ _ (by simp [putB4_length, putB8_length])
  | 3, _ =>
    show loadM 2 (putB a 4 ++ putB d 8 ++ [0, 0, 0, 0, 1, 0, 0, 0, 0, 0, 0, 0]) = none
    rw [loadM_two a d _ rfl h0 h1 h2 h3]
    exact if_neg fun hh => absurd hh.2 (by decide +kernel)
  | 4, _ =>
    show loadM 2 (putB a 4 ++ putB d 8 ++ [1, 0, 1, 0, 0, 0, 0, 0, 0, 0, 0, 0]) = none
    rw [loadM_two a d _ rfl h0 h1 h2 h3]
    exact if_neg fun hh => absurd hh.2 (by decide +kernel)

attribute [local irreducible] stateM loadM setM clearM getM okM hasM badS
def loadsSpec : ZSpec := fun args st K => ∃ (leaf draw which : Int), args = [.v (.int .i64 leaf), .v (.int .u64 draw), .v (.int .i64 which)] ∧ 0 ≤ draw ∧ draw < 18446744073709551616 ∧ K (.v (.bool true)) st
theorem loads_snd : SoundF Try.prog 9 loadsSpec := by
  refine sound_ofE Try.func9 rfl Try.results9 ?_
  rintro w0 args st K ⟨leaf, draw, which, rfl, hd0, hd1, hK⟩
  rw [Try.ntmps9]; refine ⟨by simp, ?_⟩
  have eN : newN 2 = 2 := by decide +kernel
  (repeat (first | ((with_reducible apply zr_seq)) | ((with_reducible apply zr_region); (try simp only [List.append_eq, List.cons_append, List.nil_append])) | ((with_reducible apply zo_end)) | ((with_reducible apply zs_assign); (exact rfl); (exact rfl))))
  (try ((with_reducible apply zs_yes); exact rfl; exact rfl; (first | assumption | exact rfl))); refine zo_callU new_snd Try.func27 (by kernel_rfl) rfl rfl rfl rfl (by decide) rfl rfl (by first | exact Ups.nilrow 1 (Ups.nilrow 1 (Ups.nilrow 1 (Ups.refl _))) | exact Ups.nilrow 1 (Ups.nilrow 1 (Ups.refl _)) | exact Ups.same (Ups.nilrow 1 (Ups.nilrow 1 (Ups.refl _))) | exact Ups.nilrow 1 (Ups.same (Ups.nilrow 1 (Ups.refl _))) | exact Ups.nilrow 1 (Ups.refl _) | exact Ups.same (Ups.nilrow 1 (Ups.refl _)) | exact Ups.same (Ups.same (Ups.nilrow 1 (Ups.refl _))) | exact Ups.refl _) ?_
  refine ⟨_, rfl, fun p r hr hp => ?_⟩
  rw [eN] at hp ⊢
  have hM := new_at st p r (List.replicate 2 (0, 0)) hr hp
  have hrn := hr.1
  have hpn := ((Ext.refl st).fresh hr (some (posC (List.replicate 2 (0, 0))))).none hp.1
  have hext : Ext st ((st.setH r (some (posC (List.replicate 2 (0, 0))))).setH p (some [.mrow r 0 2 2])) := ((Ext.refl st).setH hrn _).setH hpn _
  have hM : MapAt ((st.setH r (some (posC (List.replicate 2 (0, 0))))).setH p (some [.mrow r 0 2 2])) p r [(0, 0), (0, 0)] := hM
  generalize ((st.setH r (some (posC (List.replicate 2 (0, 0))))).setH p (some [.mrow r 0 2 2])) = s1 at *
  (repeat (first | ((with_reducible apply zr_seq)) | ((with_reducible apply zr_region); (try simp only [List.append_eq, List.cons_append, List.nil_append])) | ((with_reducible apply zo_end)) | ((with_reducible apply zs_move); (exact rfl); (exact rfl)) | ((with_reducible apply zs_assign); (exact rfl); (exact rfl))))
  (try ((with_reducible apply zs_yes); exact rfl; exact rfl; (first | assumption | exact rfl))); refine zo_pure0 rfl rfl (by decide) (zp_ptr_nil rfl rfl ptrP (.inl ⟨rfl, rfl⟩) (.inl ⟨_, _, rfl⟩)) ?_
  (repeat (first | ((with_reducible apply zs_yes); (exact rfl); (exact rfl); (first | assumption | exact rfl)) | ((with_reducible apply zs_move); (exact rfl); (exact rfl))))
  (try ((with_reducible apply zs_yes); exact rfl; exact rfl; (first | assumption | exact rfl))); refine zo_pure0 rfl rfl (by decide) (zp_and rfl rfl rfl (and_mask 16 (by decide) (by decide) (by decide) _ _ _ rfl rfl)) ?_
  rw [show (2 : Int) ^ 16 = 65536 from rfl]
  obtain ⟨f, hf⟩ : ∃ f, leaf % 65536 = f := ⟨_, rfl⟩
  have hf0 : 0 ≤ f ∧ f < 65536 := by omega
  rw [hf]
  (repeat (first | ((with_reducible apply zs_yes); (exact rfl); (exact rfl); (first | assumption | exact rfl)) | ((with_reducible apply zs_move); (exact rfl); (exact rfl)) | ((with_reducible apply zs_build); (exact rfl); (first | exact el_Pos | exact el_Map); (first | exact st_Pos | exact st_Map); (exact rfl); (exact rfl))))
  (try ((with_reducible apply zs_yes); exact rfl; exact rfl; (first | assumption | exact rfl))); refine zo_callU setM_snd Try.func28 (by kernel_rfl) rfl rfl rfl rfl (by decide) rfl rfl (by first | exact Ups.nilrow 1 (Ups.nilrow 1 (Ups.nilrow 1 (Ups.refl _))) | exact Ups.nilrow 1 (Ups.nilrow 1 (Ups.refl _)) | exact Ups.same (Ups.nilrow 1 (Ups.nilrow 1 (Ups.refl _))) | exact Ups.nilrow 1 (Ups.same (Ups.nilrow 1 (Ups.refl _))) | exact Ups.nilrow 1 (Ups.refl _) | exact Ups.same (Ups.nilrow 1 (Ups.refl _)) | exact Ups.same (Ups.same (Ups.nilrow 1 (Ups.refl _))) | exact Ups.refl _) ?_
  refine ⟨p, r, _, 1, f, draw, rfl, by omega, by omega, hM, ?_⟩
  rw [okM_one f hf0.1 hf0.2, setM_one f draw hf0.1 hf0.2]
  have hM2 := hM.set [(f + 1, draw), (0, 0)] rfl
  have hext2 := hext.setH hrn (some (posC [(f + 1, draw), (0, 0)]))
  generalize s1.setH r (some (posC [(f + 1, draw), (0, 0)])) = s2 at *
  have hok2 : okL [(f + 1, draw), (0, 0)] := ⟨fun q hq => by
    simp only [List.mem_cons, List.not_mem_nil, or_false] at hq
    rcases hq with rfl | rfl
    · simp only; omega
    · decide, by simp⟩
  (repeat (first | ((with_reducible apply zr_seq)) | ((with_reducible apply zr_region); (try simp only [List.append_eq, List.cons_append, List.nil_append])) | ((with_reducible apply zo_end)) | ((with_reducible apply zs_yes); (exact rfl); (exact rfl); (first | assumption | exact rfl)) | ((with_reducible apply zs_move); (exact rfl); (exact rfl)) | ((with_reducible apply zs_not); (exact rfl); (exact rfl)) | ((with_reducible apply zs_pick_f); (exact rfl); (exact rfl); (first | assumption | exact rfl); (exact rfl)) | ((with_reducible apply zr_cond_f); (exact rfl); (first | assumption | exact rfl)) | ((with_reducible apply zr_skip'))))
  (try ((with_reducible apply zs_yes); exact rfl; exact rfl; (first | assumption | exact rfl))); refine zo_callU state_snd Try.func30 (by kernel_rfl) rfl rfl rfl rfl (by decide) rfl rfl (by first | exact Ups.nilrow 1 (Ups.nilrow 1 (Ups.nilrow 1 (Ups.refl _))) | exact Ups.nilrow 1 (Ups.nilrow 1 (Ups.refl _)) | exact Ups.same (Ups.nilrow 1 (Ups.nilrow 1 (Ups.refl _))) | exact Ups.nilrow 1 (Ups.same (Ups.nilrow 1 (Ups.refl _))) | exact Ups.nilrow 1 (Ups.refl _) | exact Ups.same (Ups.nilrow 1 (Ups.refl _)) | exact Ups.same (Ups.same (Ups.nilrow 1 (Ups.refl _))) | exact Ups.refl _) ?_
  refine ⟨p, r, _, rfl, hok2, hM2, ?_⟩
  rw [stateM_two]
  generalize hS : putB (f + 1) 4 ++ putB draw 8 ++ List.replicate 12 0 = S
  have hSl : S.length = 24 := by rw [← hS, List.length_append, List.length_append, putB4_length, putB8_length]; rfl
  (try ((with_reducible apply zs_yes); exact rfl; exact rfl; (first | assumption | exact rfl))); refine zo_pure rfl rfl (by decide) (zp_toStr rfl (by first | exact Try.underlying22 | exact Try.underlying47 | exact Try.underlying50 | exact Try.underlying59 | exact Try.underlying61 | exact Try.underlying73 | exact Try.underlying74 | exact Try.underlying78) Try.underlying5 Try.underlying9 rfl) ?_
  (repeat (first | ((with_reducible apply zr_seq)) | ((with_reducible apply zr_region); (try simp only [List.append_eq, List.cons_append, List.nil_append])) | ((with_reducible apply zo_end)) | ((with_reducible apply zs_move); (exact rfl); (exact rfl)) | ((with_reducible apply zs_assign); (exact rfl); (exact rfl))))
  (try ((with_reducible apply zs_yes); exact rfl; exact rfl; (first | assumption | exact rfl))); refine zo_pure0 rfl rfl (by decide) (zp_strlen rfl Try.underlying9 rfl) ?_
  have g1 : decide (((S.length : Nat) : Int) ≠ 24) = false := decide_eq_false (by omega)
  (repeat (first | ((with_reducible apply zr_seq)) | ((with_reducible apply zo_end)) | ((with_reducible apply zs_neq); (exact rfl); (exact rfl); (exact rfl)) | ((with_reducible apply zr_cond_f); (exact rfl); (first | assumption | exact rfl)) | ((with_reducible apply zr_skip'))))
  refine za_begin (m := 12) (by kernel_rfl) rfl ?_
  refine za_take (i := 0) rfl (by kernel_rfl) (by kernel_rfl) (by kernel_rfl) (by first | exact g_none rfl | exact g_met rfl rfl rfl (by first | assumption | rfl)) rfl rfl (ZPure0.pure (zp_move rfl rfl)) ?_
  refine za_take (i := 2) rfl (by kernel_rfl) (by kernel_rfl) (by kernel_rfl) (by first | exact g_none rfl | exact g_met rfl rfl rfl (by first | assumption | rfl)) rfl rfl (ZPure0.pure (zp_move rfl rfl)) ?_
  refine za_take (i := 4) rfl (by kernel_rfl) (by kernel_rfl) (by kernel_rfl) (by first | exact g_none rfl | exact g_met rfl rfl rfl (by first | assumption | rfl)) rfl rfl (ZPure0.pure (zp_move rfl rfl)) ?_
  refine za_take (i := 7) rfl (by kernel_rfl) (by kernel_rfl) (by kernel_rfl) (by first | exact g_none rfl | exact g_met rfl rfl rfl (by first | assumption | rfl)) rfl rfl (ZPure0.pure (zp_move rfl rfl)) ?_
  refine za_take (i := 1) rfl (by kernel_rfl) (by kernel_rfl) (by kernel_rfl) (by first | exact g_none rfl | exact g_met rfl rfl rfl (by first | assumption | rfl)) rfl rfl (ZPure0.pure (zp_strcut rfl Try.underlying9 rfl (l := 0) (m := 23) rfl ⟨_, rfl⟩ (by omega) (by omega))) ?_
  refine za_take (i := 3) rfl (by kernel_rfl) (by kernel_rfl) (by kernel_rfl) (by first | exact g_none rfl | exact g_met rfl rfl rfl (by first | assumption | rfl)) rfl rfl (ZPure0.pure (zp_strcat (m := [0]) rfl rfl rfl (by simp; omega))) ?_
  refine za_take (i := 5) rfl (by kernel_rfl) (by kernel_rfl) (by kernel_rfl) (by first | exact g_none rfl | exact g_met rfl rfl rfl (by first | assumption | rfl)) rfl rfl (ZPure0.pure (zp_strcut rfl Try.underlying9 rfl (l := 0) (m := 12) rfl ⟨_, rfl⟩ (by omega) (by omega))) ?_
  refine za_take (i := 6) rfl (by kernel_rfl) (by kernel_rfl) (by kernel_rfl) (by first | exact g_none rfl | exact g_met rfl rfl rfl (by first | assumption | rfl)) rfl rfl (ZPure0.pure (zp_strcat (m := [0, 0, 0, 0, 1, 0, 0, 0, 0, 0, 0, 0]) rfl rfl rfl (by simp; omega))) ?_
  refine za_take (i := 8) rfl (by kernel_rfl) (by kernel_rfl) (by kernel_rfl) (by first | exact g_none rfl | exact g_met rfl rfl rfl (by first | assumption | rfl)) rfl rfl (ZPure0.pure (zp_strcut rfl Try.underlying9 rfl (l := 0) (m := 12) rfl ⟨_, rfl⟩ (by omega) (by omega))) ?_
  refine za_take (i := 9) rfl (by kernel_rfl) (by kernel_rfl) (by kernel_rfl) (by first | exact g_none rfl | exact g_met rfl rfl rfl (by first | assumption | rfl)) rfl rfl (ZPure0.pure (zp_strcat (m := [1, 0, 1, 0, 0, 0, 0, 0, 0, 0, 0, 0]) rfl rfl rfl (by simp; omega))) ?_
  simp only [List.drop_zero]
  refine za_one_val (i := 10) (by kernel_rfl) rfl (by first | exact g_none rfl | exact g_met rfl rfl rfl (by first | assumption | rfl)) rfl rfl (zv_lit (xs := [.const (.string ⟨#[]⟩), .tmp 34, .tmp 36, .tmp 39, .tmp 42]) rfl rfl el_Str (by first | exact Try.underlying22 | exact Try.underlying47 | exact Try.underlying50 | exact Try.underlying59 | exact Try.underlying61 | exact Try.underlying73 | exact Try.underlying74 | exact Try.underlying78) rfl (by simp [cellsD, oneD, Value.oneCell']) (by decide) ?_)
  refine za_take (i := 11) rfl (by kernel_rfl) (by kernel_rfl) (by kernel_rfl) (by first | exact g_none rfl | exact g_met rfl rfl rfl (by first | assumption | rfl)) rfl rfl (ZPure0.pure (zp_assign rfl rfl)) ?_
  first | refine za_end (by kernel_rfl) ?_ | refine za_endB (by kernel_rfl) ?_ | refine za_endBB (by kernel_rfl) ?_ | refine za_done (by kernel_rfl) ?_
  (repeat (first | ((with_reducible apply zr_seq)) | ((with_reducible apply zr_region); (try simp only [List.append_eq, List.cons_append, List.nil_append])) | ((with_reducible apply zs_move); (exact rfl); (exact rfl))))
  (try ((with_reducible apply zs_yes); exact rfl; exact rfl; (first | assumption | exact rfl))); refine zo_pure0 rfl rfl (by decide) (zp_and rfl rfl rfl (and_mask 8 (by decide) (by decide) (by decide) _ _ _ rfl rfl)) ?_
  rw [show (2 : Int) ^ 8 = 256 from rfl]
  (repeat (first | ((with_reducible apply zs_move); (exact rfl); (exact rfl)) | ((with_reducible apply zs_len); (exact rfl); (exact rfl); (exact (by first | exact Try.underlying22 | exact Try.underlying47 | exact Try.underlying50 | exact Try.underlying59 | exact Try.underlying61 | exact Try.underlying73 | exact Try.underlying74 | exact Try.underlying78)))))
  obtain ⟨j, hj⟩ : ∃ j : Nat, (which % 256).tmod 5 = (j : Int) := ⟨((which % 256).tmod 5).toNat, by
    have := Int.tmod_nonneg (5 : Int) (show 0 ≤ which % 256 by omega); omega⟩
  have hj5 : j < 5 := by
    have := Int.tmod_lt_of_pos (which % 256) (show (0 : Int) < 5 by omega)
    omega
  (try ((with_reducible apply zs_yes); exact rfl; exact rfl; (first | assumption | exact rfl))); refine zo_pure0 rfl rfl (by decide) (zp_rem rfl rfl rfl (by simp) hj) ?_
  obtain ⟨iS, hiS, hkS⟩ := ii_Str
  (try ((with_reducible apply zs_yes); exact rfl; exact rfl; (first | assumption | exact rfl))); refine zo_pure0 rfl rfl (by decide) (zp_indexAddr rfl (by first | exact Try.underlying22 | exact Try.underlying47 | exact Try.underlying50 | exact Try.underlying59 | exact Try.underlying61 | exact Try.underlying73 | exact Try.underlying74 | exact Try.underlying78) hiS hkS rfl rfl (by omega) (by simp; omega)) ?_
  rw [Int.toNat_natCast]
  have hbad := bad_none (f + 1) draw j hj5 (by omega) (by omega) hd0 hd1
  rw [hS] at hbad
  have hgetD : ∀ z : List (List D), z = (badS S).map (fun l => [strD l]) → z.getD j [] = [strD ((badS S).getD j [])] := fun z hz => by
    subst hz
    have : j < (badS S).length := by unfold badS; exact hj5
    rw [getD_in (by simpa using this), getD_in this, List.getElem_map]
  rw [hgetD _ (by unfold badS; rfl)]
  have hbl : ((badS S).getD j []).length ≤ 100 := by
    unfold badS
    match j, hj5 with
    | 0, _ => simp
    | 1, _ => simp; omega
    | 2, _ => simp; omega
    | 3, _ => simp; omega
    | 4, _ => simp; omega
  generalize (badS S).getD j [] = B at *
  (try ((with_reducible apply zs_yes); exact rfl; exact rfl; (first | assumption | exact rfl))); refine zo_pure rfl rfl (by decide) (zp_load_ref rfl sh_Str rfl rfl) ?_
  (try ((with_reducible apply zs_yes); exact rfl; exact rfl; (first | assumption | exact rfl))); refine zo_val rfl rfl (by decide) (zv_strBytes rfl Try.underlying9 Try.underlying22 Try.underlying5 rfl (by omega) ?_)
  (try ((with_reducible apply zs_yes); exact rfl; exact rfl; (first | assumption | exact rfl))); refine zo_callU load_snd Try.func33 (by kernel_rfl) rfl rfl rfl rfl (by decide) rfl rfl (by first | exact Ups.nilrow 1 (Ups.nilrow 1 (Ups.nilrow 1 (Ups.refl _))) | exact Ups.nilrow 1 (Ups.nilrow 1 (Ups.refl _)) | exact Ups.same (Ups.nilrow 1 (Ups.nilrow 1 (Ups.refl _))) | exact Ups.nilrow 1 (Ups.same (Ups.nilrow 1 (Ups.refl _))) | exact Ups.nilrow 1 (Ups.refl _) | exact Ups.same (Ups.nilrow 1 (Ups.refl _)) | exact Ups.same (Ups.same (Ups.nilrow 1 (Ups.refl _))) | exact Ups.refl _) ?_
  refine ⟨p, r, _, B, 0, rfl, by simp, by omega, hM2, fun _ => ?_, fun l' hl' => by rw [show ([(f + 1, draw), (0, 0)] : PL).length = 2 from rfl, hbad] at hl'; cases hl'⟩
  (repeat (first | ((with_reducible apply zs_yes); (exact rfl); (exact rfl); (first | assumption | exact rfl)) | ((with_reducible apply zs_move); (exact rfl); (exact rfl)) | ((with_reducible apply zs_call state_snd cl_30); (exact rfl); (exact rfl); ((try simp only [List.append_nil]); first | exact Ups.nilrow 1 (Ups.nilrow 1 (Ups.nilrow 1 (Ups.refl _))) | exact Ups.nilrow 1 (Ups.nilrow 1 (Ups.refl _)) | exact Ups.same (Ups.nilrow 1 (Ups.nilrow 1 (Ups.refl _))) | exact Ups.nilrow 1 (Ups.same (Ups.nilrow 1 (Ups.refl _))) | exact Ups.nilrow 1 (Ups.refl _) | exact Ups.same (Ups.nilrow 1 (Ups.refl _)) | exact Ups.same (Ups.same (Ups.nilrow 1 (Ups.refl _))) | exact Ups.refl _))))
  refine ⟨p, r, _, rfl, hok2, hM2, ?_⟩
  rw [stateM_two, hS]
  (repeat (first | ((with_reducible apply zo_end)) | ((with_reducible apply zs_yes); (exact rfl); (exact rfl); (first | assumption | exact rfl)) | ((with_reducible apply zs_move); (exact rfl); (exact rfl)) | ((with_reducible apply zs_pick_f); (exact rfl); (exact rfl); (first | assumption | exact rfl); (exact rfl)) | ((with_reducible apply zs_strne); (exact rfl); (exact rfl); (exact rfl)) | ((with_reducible apply zs_toStr); (exact rfl); (exact rfl); (exact (by first | exact Try.underlying22 | exact Try.underlying47 | exact Try.underlying50 | exact Try.underlying59 | exact Try.underlying61 | exact Try.underlying73 | exact Try.underlying74 | exact Try.underlying78)); (exact Try.underlying5); (exact Try.underlying9))))
  rw [show (!(S == S)) = false by simp]
  (repeat (first | ((with_reducible apply zr_seq)) | ((with_reducible apply zr_region); (try simp only [List.append_eq, List.cons_append, List.nil_append])) | ((with_reducible apply zr_cond_f); (exact rfl); (first | assumption | exact rfl)) | ((with_reducible apply zr_skip')) | ((with_reducible apply zs_call new_snd cl_27); (exact rfl); (exact rfl); ((try simp only [List.append_nil]); first | exact Ups.nilrow 1 (Ups.nilrow 1 (Ups.nilrow 1 (Ups.refl _))) | exact Ups.nilrow 1 (Ups.nilrow 1 (Ups.refl _)) | exact Ups.same (Ups.nilrow 1 (Ups.nilrow 1 (Ups.refl _))) | exact Ups.nilrow 1 (Ups.same (Ups.nilrow 1 (Ups.refl _))) | exact Ups.nilrow 1 (Ups.refl _) | exact Ups.same (Ups.nilrow 1 (Ups.refl _)) | exact Ups.same (Ups.same (Ups.nilrow 1 (Ups.refl _))) | exact Ups.refl _))))
  refine ⟨_, rfl, fun p2 r2 hr2 hp2 => ?_⟩
  rw [eN] at hp2 ⊢
  have hN := new_at s2 p2 r2 (List.replicate 2 (0, 0)) hr2 hp2
  have hN : MapAt ((s2.setH r2 (some (posC (List.replicate 2 (0, 0))))).setH p2 (some [.mrow r2 0 2 2])) p2 r2 [(0, 0), (0, 0)] := hN
  have hr2n := hext2.none hr2.1
  have hext3 := (hext2.fresh hr2 (some (posC (List.replicate 2 (0, 0))))).fresh hp2 (some [.mrow r2 0 2 2])
  have hp2n : st.H p2 = none := (hext2.fresh hr2 (some (posC (List.replicate 2 (0, 0))))).none hp2.1
  generalize ((s2.setH r2 (some (posC (List.replicate 2 (0, 0))))).setH p2 (some [.mrow r2 0 2 2])) = s3 at *
  (repeat (first | ((with_reducible apply zr_seq)) | ((with_reducible apply zr_region); (try simp only [List.append_eq, List.cons_append, List.nil_append])) | ((with_reducible apply zo_end)) | ((with_reducible apply zs_yes); (exact rfl); (exact rfl); (first | assumption | exact rfl)) | ((with_reducible apply zs_move); (exact rfl); (exact rfl)) | ((with_reducible apply zs_assign); (exact rfl); (exact rfl)) | ((with_reducible apply zs_peq_ptr); (exact rfl); (exact rfl); (first | exact pt_Map))))
  (try ((with_reducible apply zs_yes); exact rfl; exact rfl; (first | assumption | exact rfl))); refine zo_val rfl rfl (by decide) (zv_strBytes rfl Try.underlying9 Try.underlying22 Try.underlying5 rfl (by omega) ?_)
  (repeat (first | ((with_reducible apply zs_yes); (exact rfl); (exact rfl); (first | assumption | exact rfl)) | ((with_reducible apply zs_call load_snd cl_33); (exact rfl); (exact rfl); ((try simp only [List.append_nil]); first | exact Ups.nilrow 1 (Ups.nilrow 1 (Ups.nilrow 1 (Ups.refl _))) | exact Ups.nilrow 1 (Ups.nilrow 1 (Ups.refl _)) | exact Ups.same (Ups.nilrow 1 (Ups.nilrow 1 (Ups.refl _))) | exact Ups.nilrow 1 (Ups.same (Ups.nilrow 1 (Ups.refl _))) | exact Ups.nilrow 1 (Ups.refl _) | exact Ups.same (Ups.nilrow 1 (Ups.refl _)) | exact Ups.same (Ups.same (Ups.nilrow 1 (Ups.refl _))) | exact Ups.refl _))))
  have hS1 : loadM 2 S = some [(f + 1, draw), (0, 0)] := by
    have := loadM_two (f + 1) draw (List.replicate 12 0) rfl (by omega) (by omega) hd0 hd1
    rw [hS] at this
    rw [this, if_pos ⟨by unfold okE; exact decide_eq_true (by omega), by decide +kernel⟩]
    rw [show ((get (List.take 4 (List.replicate 12 (0 : UInt8))), get (List.drop 4 (List.take 12 (List.replicate 12 (0 : UInt8))))) : Int × Int) = (0, 0) from by decide +kernel]
  refine ⟨p2, r2, _, S, 0, rfl, by simp, by omega, hN, fun hn => ?_, fun l' hl' r3 hr3 => ?_⟩
  · rw [show ([(0, 0), (0, 0)] : PL).length = 2 from rfl, hS1] at hn; cases hn
  rw [show ([(0, 0), (0, 0)] : PL).length = 2 from rfl, hS1] at hl'
  obtain rfl := Option.some.inj hl'
  have hM4 : MapAt ((s3.setH r3 (some (posC [(f + 1, draw), (0, 0)]))).setH p2 (some [.mrow r3 0 2 2])) p2 r3 [(f + 1, draw), (0, 0)] := hN.load hr3 _
  have hext4 : Ext st ((s3.setH r3 (some (posC [(f + 1, draw), (0, 0)]))).setH p2 (some [.mrow r3 0 2 2])) := (hext3.fresh hr3 _).setH hp2n _
  generalize ((s3.setH r3 (some (posC [(f + 1, draw), (0, 0)]))).setH p2 (some [.mrow r3 0 2 2])) = s4 at *
  (repeat (first | ((with_reducible apply zr_seq)) | ((with_reducible apply zr_region); (try simp only [List.append_eq, List.cons_append, List.nil_append])) | ((with_reducible apply zo_end)) | ((with_reducible apply zs_yes); (exact rfl); (exact rfl); (first | assumption | exact rfl)) | ((with_reducible apply zs_move); (exact rfl); (exact rfl)) | ((with_reducible apply zs_not); (exact rfl); (exact rfl)) | ((with_reducible apply zs_pick_f); (exact rfl); (exact rfl); (first | assumption | exact rfl); (exact rfl)) | ((with_reducible apply zr_cond_f); (exact rfl); (first | assumption | exact rfl)) | ((with_reducible apply zr_skip')) | ((with_reducible apply zs_call getM_snd cl_29); (exact rfl); (exact rfl); ((try simp only [List.append_nil]); first | exact Ups.nilrow 1 (Ups.nilrow 1 (Ups.nilrow 1 (Ups.refl _))) | exact Ups.nilrow 1 (Ups.nilrow 1 (Ups.refl _)) | exact Ups.same (Ups.nilrow 1 (Ups.nilrow 1 (Ups.refl _))) | exact Ups.nilrow 1 (Ups.same (Ups.nilrow 1 (Ups.refl _))) | exact Ups.nilrow 1 (Ups.refl _) | exact Ups.same (Ups.nilrow 1 (Ups.refl _)) | exact Ups.same (Ups.same (Ups.nilrow 1 (Ups.refl _))) | exact Ups.refl _))))
  refine ⟨p2, r3, _, 1, rfl, by omega, by omega, fun q hq => ⟨(hok2.1 q hq).1, (hok2.1 q hq).2.1⟩, hM4, ?_⟩
  have hg1 : getM [(f + 1, draw), (0, 0)] 1 = some (f, draw) := by
    unfold getM hasM
    rw [if_pos ⟨decide_eq_true (by simp), by simp; omega⟩]
    simp
  have hg2 : getM [(f + 1, draw), (0, 0)] 2 = none := by unfold getM hasM; exact if_neg (by simp)
  rw [hg1]
  (repeat (first | ((with_reducible apply zs_move); (exact rfl); (exact rfl)) | ((with_reducible apply zs_extract); (exact rfl); (exact rfl); (exact rfl))))
  (first | refine zs_allocRef el_Pos (by simp [oneD, Value.oneCell']) sh_Pos rfl (fun _ => rfl) rfl (by simp [cellsD, oneD, Value.oneCell', posD]) ?_ | refine zs_allocRef el_Poss (by simp [oneD, Value.oneCell']) sh_Poss rfl (fun _ => rfl) rfl (by simp [cellsD, oneD, Value.oneCell', posD]) ?_ | refine zs_allocRef el_Map (by simp [oneD, Value.oneCell']) sh_Map rfl (fun _ => rfl) rfl (by simp [cellsD, oneD, Value.oneCell', posD]) ?_ | refine zs_allocRef el_Int (by simp [oneD, Value.oneCell']) sh_Int rfl (fun _ => rfl) rfl (by simp [cellsD, oneD, Value.oneCell', posD]) ?_ | refine zs_allocRef el_U64 (by simp [oneD, Value.oneCell']) sh_U64 rfl (fun _ => rfl) rfl (by simp [cellsD, oneD, Value.oneCell', posD]) ?_ | refine zs_allocRef el_Row (by simp [oneD, Value.oneCell']) sh_Row rfl (fun _ => rfl) rfl (by simp [cellsD, oneD, Value.oneCell', posD]) ?_ | refine zs_allocRef el_Bool (by simp [oneD, Value.oneCell']) sh_Bool rfl (fun _ => rfl) rfl (by simp [cellsD, oneD, Value.oneCell', posD]) ?_ | refine zs_allocRef el_Strs (by simp [oneD, Value.oneCell']) sh_Strs rfl (fun _ => rfl) rfl (by simp [cellsD, oneD, Value.oneCell', posD]) ?_ | refine zs_allocRef el_Str (by simp [oneD, Value.oneCell']) sh_Str rfl (fun _ => rfl) rfl (by simp [cellsD, oneD, Value.oneCell', posD]) ?_)
  (repeat (first | ((with_reducible apply zr_seq)) | ((with_reducible apply zr_region); (try simp only [List.append_eq, List.cons_append, List.nil_append])) | ((with_reducible apply zo_end)) | ((with_reducible apply zs_move); (exact rfl); (exact rfl)) | ((with_reducible apply zs_assign); (exact rfl); (exact rfl)) | ((with_reducible apply zs_call getM_snd cl_29); (exact rfl); (exact rfl); ((try simp only [List.append_nil]); first | exact Ups.nilrow 1 (Ups.nilrow 1 (Ups.nilrow 1 (Ups.refl _))) | exact Ups.nilrow 1 (Ups.nilrow 1 (Ups.refl _)) | exact Ups.same (Ups.nilrow 1 (Ups.nilrow 1 (Ups.refl _))) | exact Ups.nilrow 1 (Ups.same (Ups.nilrow 1 (Ups.refl _))) | exact Ups.nilrow 1 (Ups.refl _) | exact Ups.same (Ups.nilrow 1 (Ups.refl _)) | exact Ups.same (Ups.same (Ups.nilrow 1 (Ups.refl _))) | exact Ups.refl _))))
  refine ⟨p2, r3, _, 2, rfl, by omega, by omega, fun q hq => ⟨(hok2.1 q hq).1, (hok2.1 q hq).2.1⟩, hM4, ?_⟩
  rw [hg2]
  (repeat (first | ((with_reducible apply zs_move); (exact rfl); (exact rfl)) | ((with_reducible apply zs_extract); (exact rfl); (exact rfl); (exact rfl))))
  (first | refine zs_allocRef el_Pos (by simp [oneD, Value.oneCell']) sh_Pos rfl (fun _ => rfl) rfl (by simp [cellsD, oneD, Value.oneCell', posD]) ?_ | refine zs_allocRef el_Poss (by simp [oneD, Value.oneCell']) sh_Poss rfl (fun _ => rfl) rfl (by simp [cellsD, oneD, Value.oneCell', posD]) ?_ | refine zs_allocRef el_Map (by simp [oneD, Value.oneCell']) sh_Map rfl (fun _ => rfl) rfl (by simp [cellsD, oneD, Value.oneCell', posD]) ?_ | refine zs_allocRef el_Int (by simp [oneD, Value.oneCell']) sh_Int rfl (fun _ => rfl) rfl (by simp [cellsD, oneD, Value.oneCell', posD]) ?_ | refine zs_allocRef el_U64 (by simp [oneD, Value.oneCell']) sh_U64 rfl (fun _ => rfl) rfl (by simp [cellsD, oneD, Value.oneCell', posD]) ?_ | refine zs_allocRef el_Row (by simp [oneD, Value.oneCell']) sh_Row rfl (fun _ => rfl) rfl (by simp [cellsD, oneD, Value.oneCell', posD]) ?_ | refine zs_allocRef el_Bool (by simp [oneD, Value.oneCell']) sh_Bool rfl (fun _ => rfl) rfl (by simp [cellsD, oneD, Value.oneCell', posD]) ?_ | refine zs_allocRef el_Strs (by simp [oneD, Value.oneCell']) sh_Strs rfl (fun _ => rfl) rfl (by simp [cellsD, oneD, Value.oneCell', posD]) ?_ | refine zs_allocRef el_Str (by simp [oneD, Value.oneCell']) sh_Str rfl (fun _ => rfl) rfl (by simp [cellsD, oneD, Value.oneCell', posD]) ?_)
  (repeat (first | ((with_reducible apply zr_seq)) | ((with_reducible apply zr_region); (try simp only [List.append_eq, List.cons_append, List.nil_append])) | ((with_reducible apply zo_end)) | ((with_reducible apply zs_yes); (exact rfl); (exact rfl); (first | assumption | exact rfl)) | ((with_reducible apply zs_move); (exact rfl); (exact rfl)) | ((with_reducible apply zs_assign); (exact rfl); (exact rfl)) | ((with_reducible apply zs_load_refA); (exact rfl); (exact rfl); (first | exact sh_Pos | exact sh_Map); (exact rfl)) | ((with_reducible apply zs_build); (exact rfl); (first | exact el_Pos | exact el_Map); (first | exact st_Pos | exact st_Map); (exact rfl); (first | (simp only [fillD, cellsD, List.take_zero, List.take_succ_cons, List.take_nil, List.drop_succ_cons, List.drop_zero, List.drop_nil, List.nil_append, List.cons_append, List.append_nil, Nat.zero_add, Nat.reduceAdd, List.length_cons, List.length_nil]; exact rfl) | exact rfl)) | ((with_reducible apply (zs_mask (p := 65536) 16)); (exact rfl); (exact rfl); (exact rfl); (exact rfl); (decide); (decide); (decide))))
  rw [hf]
  (try ((with_reducible apply zs_yes); exact rfl; exact rfl; (first | assumption | exact rfl))); refine zo_pure0 rfl rfl (by decide) (zp_eqPos (p := (f, draw)) (q := (f, draw)) rfl rfl rfl (.inl rfl)) ?_
  rw [show (if BinOp.eql = BinOp.eql then decide ((f, draw) = (f, draw)) else !decide ((f, draw) = (f, draw))) = true by simp]
  (repeat (first | ((with_reducible apply zs_yes); (exact rfl); (exact rfl); (first | assumption | exact rfl)) | ((with_reducible apply zs_move); (exact rfl); (exact rfl)) | ((with_reducible apply zs_not); (exact rfl); (exact rfl)) | ((with_reducible apply zs_pick_t); (exact rfl); (exact rfl); (first | assumption | exact rfl); (exact rfl))))
  (try ((with_reducible apply zs_yes); exact rfl; exact rfl; (first | assumption | exact rfl))); refine zo_pure0 rfl rfl (by decide) (zp_strcut rfl Try.underlying9 rfl (l := 0) (m := 12) rfl ⟨_, rfl⟩ (by omega) (by omega)) ?_
  (try ((with_reducible apply zs_yes); exact rfl; exact rfl; (first | assumption | exact rfl))); refine zo_pure0 rfl rfl (by decide) (zp_strcat (m := [0, 0, 1, 0, 7, 0, 0, 0, 0, 0, 0, 0]) rfl rfl rfl (by simp; omega)) ?_
  rw [List.drop_zero]
  have hl2 : (S.take 12 ++ [0, 0, 1, 0, 7, 0, 0, 0, 0, 0, 0, 0]).length = 24 := by simp; omega
  have hS2 : loadM 2 (S.take 12 ++ [0, 0, 1, 0, 7, 0, 0, 0, 0, 0, 0, 0]) = some [(f + 1, draw), (65536, 7)] := by
    have := loadM_two (f + 1) draw [0, 0, 1, 0, 7, 0, 0, 0, 0, 0, 0, 0] rfl (by omega) (by omega) hd0 hd1
    have ht : S.take 12 = putB (f + 1) 4 ++ putB draw 8 := by
      rw [← hS, List.take_append_of_le_length (by rw [List.length_append, putB4_length, putB8_length]; decide), List.take_of_length_le (by rw [List.length_append, putB4_length, putB8_length]; decide)]
    rw [ht, this, if_pos ⟨by unfold okE; exact decide_eq_true (by omega), by decide +kernel⟩]
    rw [show ((get (List.take 4 [0, 0, 1, 0, 7, 0, 0, 0, 0, 0, 0, (0 : UInt8)]), get (List.drop 4 (List.take 12 [0, 0, 1, 0, 7, 0, 0, 0, 0, 0, 0, (0 : UInt8)]))) : Int × Int) = (65536, 7) from by decide +kernel]
  generalize S.take 12 ++ [0, 0, 1, 0, 7, 0, 0, 0, 0, 0, 0, 0] = S2 at *
  (try ((with_reducible apply zs_yes); exact rfl; exact rfl; (first | assumption | exact rfl))); refine zo_val rfl rfl (by decide) (zv_strBytes rfl Try.underlying9 Try.underlying22 Try.underlying5 rfl (by omega) ?_)
  (repeat (first | ((with_reducible apply zs_yes); (exact rfl); (exact rfl); (first | assumption | exact rfl)) | ((with_reducible apply zs_call load_snd cl_33); (exact rfl); (exact rfl); ((try simp only [List.append_nil]); first | exact Ups.nilrow 1 (Ups.nilrow 1 (Ups.nilrow 1 (Ups.refl _))) | exact Ups.nilrow 1 (Ups.nilrow 1 (Ups.refl _)) | exact Ups.same (Ups.nilrow 1 (Ups.nilrow 1 (Ups.refl _))) | exact Ups.nilrow 1 (Ups.same (Ups.nilrow 1 (Ups.refl _))) | exact Ups.nilrow 1 (Ups.refl _) | exact Ups.same (Ups.nilrow 1 (Ups.refl _)) | exact Ups.same (Ups.same (Ups.nilrow 1 (Ups.refl _))) | exact Ups.refl _))))
  refine ⟨p2, r3, _, S2, 0, rfl, by simp, by omega, hM4, fun hn => ?_, fun l' hl' r4 hr4 => ?_⟩
  · rw [show ([(f + 1, draw), (0, 0)] : PL).length = 2 from rfl, hS2] at hn; cases hn
  have hext5 := (hext4.fresh hr4 (some (posC l'))).setH hp2n (some [.mrow r4 0 l'.length l'.length])
  (repeat (first | ((with_reducible apply zs_yes); (exact rfl); (exact rfl); (first | assumption | exact rfl)) | ((with_reducible apply zs_move); (exact rfl); (exact rfl)) | ((with_reducible apply zs_pick_t); (exact rfl); (exact rfl); (first | assumption | exact rfl); (exact rfl)) | ((with_reducible apply zs_call awake16_snd cl_32); (exact rfl); (exact rfl); ((try simp only [List.append_nil]); first | exact Ups.nilrow 1 (Ups.nilrow 1 (Ups.nilrow 1 (Ups.refl _))) | exact Ups.nilrow 1 (Ups.nilrow 1 (Ups.refl _)) | exact Ups.same (Ups.nilrow 1 (Ups.nilrow 1 (Ups.refl _))) | exact Ups.nilrow 1 (Ups.same (Ups.nilrow 1 (Ups.refl _))) | exact Ups.nilrow 1 (Ups.refl _) | exact Ups.same (Ups.nilrow 1 (Ups.refl _)) | exact Ups.same (Ups.same (Ups.nilrow 1 (Ups.refl _))) | exact Ups.refl _))))
  refine ⟨rfl, ?_⟩
  (repeat (first | ((with_reducible apply zo_end)) | ((with_reducible apply zs_assign); (exact rfl); (exact rfl)) | ((with_reducible apply zs_pick_t); (exact rfl); (exact rfl); (first | assumption | exact rfl); (exact rfl)) | ((with_reducible apply zr_retZ); (exact rfl); (repeat (first | exact resD_nil _ _ _ | ((with_reducible apply resD_tmp); (exact rfl)) | ((with_reducible apply resD_cell_agg); (exact rfl); (exact sh_Pos); (first | assumption | exact St.setH_self _ _ _); (exact rfl)) | ((with_reducible apply resD_cell_agg); (exact rfl); (exact sh_Map); (first | assumption | exact St.setH_self _ _ _); (exact rfl)) | ((with_reducible apply resD_cell); (exact rfl); (exact sh_Poss); (first | assumption | exact St.setH_self _ _ _); (exact rfl)) | ((with_reducible apply resD_cell); (exact rfl); (exact sh_Int); (first | assumption | exact St.setH_self _ _ _); (exact rfl)) | ((with_reducible apply resD_cell); (exact rfl); (exact sh_U64); (first | assumption | exact St.setH_self _ _ _); (exact rfl)) | ((with_reducible apply resD_cell); (exact rfl); (exact sh_Row); (first | assumption | exact St.setH_self _ _ _); (exact rfl)) | ((with_reducible apply resD_cell); (exact rfl); (exact sh_Bool); (first | assumption | exact St.setH_self _ _ _); (exact rfl)) | ((with_reducible apply resD_cell); (exact rfl); (exact sh_Strs); (first | assumption | exact St.setH_self _ _ _); (exact rfl)) | ((with_reducible apply resD_cell); (exact rfl); (exact sh_Str); (first | assumption | exact St.setH_self _ _ _); (exact rfl)))); (simp only [resOf]))))
  exact KE.mk st hext5 hK
end Go.Proofs.ZtLe
