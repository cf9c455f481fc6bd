/- A part of the proof of PosmBounds: walks of the functions that it reaches. No condition. -/
import Derived.Test.YtpelekdimmfldaaZtPoA
namespace Go.Proofs.ZtLe
open Go.RowKit Go.Proofs Go.Proofs.Zm
set_option linter.unusedVariables false
set_option linter.unusedSimpArgs false
set_option maxHeartbeats 20000000
attribute [local irreducible] ZWp ZOps ZPure ZPure0 ZVal ZOp SoundF

/-! ### State -/
def stateM (l : PL) : List UInt8 := l.flatMap fun q => putB q.1 4 ++ putB q.2 8
theorem putB4_length (n : Int) : (putB n 4).length = 4 := by unfold putB; rw [if_pos (by omega), put_length]; rfl
theorem putB8_length (n : Int) : (putB n 8).length = 8 := by unfold putB; rw [if_pos (by omega), put_length]; rfl
theorem stateM_length (l : PL) : (stateM l).length = 12 * l.length := by
  induction l with
  | nil => rfl
  | cons q l ih => simp only [stateM, List.flatMap_cons, List.length_append, List.length_cons, putB4_length, putB8_length] at ih ⊢; rw [ih]; omega
theorem stateM_take (l : PL) (i : Nat) (h : i < l.length) : stateM (l.take (i + 1)) = stateM (l.take i) ++ (putB (l.getD i (0, 0)).1 4 ++ putB (l.getD i (0, 0)).2 8) := by
  rw [List.take_succ_eq_append_getElem h, getD_in h]; unfold stateM; rw [List.flatMap_append]; simp
def okL (l : PL) : Prop := (∀ q ∈ l, 0 ≤ q.1 ∧ q.1 ≤ 65536 ∧ 0 ≤ q.2 ∧ q.2 < 18446744073709551616) ∧ l.length ≤ 10000
def stateSpec : ZSpec := fun args st K => ∃ (p r : Nat) (l : PL), args = [.ptr p 0] ∧ okL l ∧ MapAt st p r l ∧ K (.row (bytesD (stateM l)) 1 0) st
attribute [local irreducible] stateM
theorem state_snd : SoundF Try.prog 30 stateSpec := by
  refine sound_ofE Try.func30 rfl Try.results30 ?_
  rintro w0 args st K ⟨p, r, l, rfl, hl, hM, hK⟩
  rw [Try.ntmps30]; refine ⟨by simp, ?_⟩
  obtain ⟨iP, hiP, hkP⟩ := ii_Pos
  have hp := hM.hp
  have hr := hM.hr
  have hll := hl.2
  (repeat (first | ((with_reducible apply zr_seq)) | ((with_reducible apply zr_region); (try simp only [List.append_eq, List.cons_append, List.nil_append])) | ((with_reducible apply zo_end)) | ((with_reducible apply zs_move); (exact rfl); (exact rfl)) | ((with_reducible apply zs_assign); (exact rfl); (exact rfl)) | ((with_reducible apply zs_nilCheck_ptr); (exact rfl); (exact rfl)) | ((with_reducible apply zs_field_ptr); (exact rfl); (exact rfl); (first | exact fld_Pos_0 | exact fld_Pos_1 | exact fld_Map_0)) | ((with_reducible apply zs_load_ptr); (exact rfl); (exact rfl); (first | exact sh_Poss | exact sh_Int | exact sh_U64 | exact sh_Row | exact sh_Bool); (first | assumption | exact St.setH_self _ _ _); (exact rfl))))
  (try ((with_reducible apply zs_yes); exact rfl; exact rfl; (first | assumption | exact rfl))); refine zo_pure0 rfl rfl (by decide) (zp_len_mrow rfl (by first | exact Try.underlying22 | exact Try.underlying47 | exact Try.underlying50 | exact Try.underlying59 | exact Try.underlying61 | exact Try.underlying73 | exact Try.underlying74 | exact Try.underlying78) rfl) ?_
  (repeat (first | ((with_reducible apply zo_end)) | ((with_reducible apply zs_move); (exact rfl); (exact rfl)) | ((with_reducible apply zr_block))))
  refine zr_nil 3 1 rfl fun t ht ht0 => ?_
  refine zr_forget st (fun _ _ e => e) (fun q e => by simp [e]) ?_
  have e0 : stateM (l.take 0) = [] := by rw [List.take_zero]; unfold stateM; rfl
  refine zr_loopE (fun m env s => ∃ i t : Nat, m + i = l.length ∧ env = [(3, .row (bytesD (stateM (l.take i))) 1 t), (9, .mrow r 0 l.length l.length), (10, .v (.int .i64 (l.length : Nat))), (11, .v (.int .i64 (i : Nat)))] ∧ s = st) l.length [(3, .row (bytesD (stateM (l.take 0))) 1 t), (9, .mrow r 0 l.length l.length), (10, .v (.int .i64 (l.length : Nat))), (11, .v (.int .i64 (0 : Nat)))] (sub_cons (by rw [e0]; rfl) (by repeat (first | exact sub_nil _ | refine sub_cons rfl ?_ | refine sub_cons (by first | rfl | (simp [zlook]; done)) ?_))) ⟨0, t, rfl, rfl, rfl⟩ ?_
  rintro m env s ⟨i, t, hm, rfl, rfl⟩
  (repeat (first | ((with_reducible apply zr_seq)) | ((with_reducible apply zr_region); (try simp only [List.append_eq, List.cons_append, List.nil_append])) | ((with_reducible apply zo_end)) | ((with_reducible apply zs_lss); (exact rfl); (exact rfl); (exact rfl))))
  by_cases hlt : i < l.length
  · have g1 : decide ((i : Int) < (l.length : Nat)) = true := decide_eq_true (by omega)
    have hat := posC_at l i hlt
    have hst := stateM_take l i hlt
    have hq : 0 ≤ (l.getD i (0, 0)).1 ∧ (l.getD i (0, 0)).1 ≤ 65536 ∧ 0 ≤ (l.getD i (0, 0)).2 ∧ (l.getD i (0, 0)).2 < 18446744073709551616 := by rw [getD_in hlt]; exact hl.1 _ (List.getElem_mem hlt)
    have hln := stateM_length (l.take i)
    rw [List.length_take] at hln
    generalize l.getD i (0, 0) = q at *
    (repeat (first | ((with_reducible apply zr_seq)) | ((with_reducible apply zr_region); (try simp only [List.append_eq, List.cons_append, List.nil_append])) | ((with_reducible apply zr_cond_t); (exact rfl); (first | assumption | exact rfl)) | ((with_reducible apply zr_block)) | ((with_reducible apply zr_skip'))))
    (try ((with_reducible apply zs_yes); exact rfl; exact rfl; (first | assumption | exact rfl))); refine zo_pure0 rfl rfl (by decide) (zp_index_mrow rfl (by first | exact Try.underlying22 | exact Try.underlying47 | exact Try.underlying50 | exact Try.underlying59 | exact Try.underlying61 | exact Try.underlying73 | exact Try.underlying74 | exact Try.underlying78) hiP hkP rfl rfl (by omega) (by omega)) ?_
    rw [show 0 + ((i : Nat) : Int).toNat * 2 = i * 2 by omega]
    refine zs_load_ptrA rfl rfl sh_Pos hr (by rw [posC_length]; omega) hat ?_
    (try ((with_reducible apply zs_yes); exact rfl; exact rfl; (first | assumption | exact rfl))); refine zo_val rfl rfl (by decide) (zv_alloc rfl el_Pos (by simp [oneD, Value.oneCell']) fun a ha => ?_)
    refine zs_store rfl rfl sh_Pos (St.setH_self _ _ _) rfl (by simp [cellsD, oneD, Value.oneCell']) (by simp [cellsD]) rfl ?_
    rw [St.setH_setH]
    (repeat (first | ((with_reducible apply zo_end))))
    refine zr_freeze (id := a) [(3, .row (bytesD (stateM (l.take i))) 1 t), (5, .ref [.v (.int .i64 q.1), .v (.int .u64 q.2)]), (9, .mrow r 0 l.length l.length), (10, .v (.int .i64 (l.length : Nat))), (11, .v (.int .i64 (i : Nat)))] (St.setH_self _ _ _)
      (fz_cons rfl (.same _) (fz_cons rfl (.ptr 0) (fz_cons rfl (.same _) (fz_cons rfl (.same _) (fz_cons rfl (.same _) fz_nil))))) ?_
    rw [St.setH_setH, St.setH_none ha.1]
    refine za_begin (m := 11) (by kernel_rfl) rfl ?_
    refine za_take (i := 0) rfl (by kernel_rfl) (by kernel_rfl) (by kernel_rfl) (by first | exact g_none rfl | exact g_met rfl rfl rfl (by first | assumption | rfl)) rfl rfl (ZPure0.pure (zp_move rfl rfl)) ?_
    refine za_take (i := 1) rfl (by kernel_rfl) (by kernel_rfl) (by kernel_rfl) (by first | exact g_none rfl | exact g_met rfl rfl rfl (by first | assumption | rfl)) rfl rfl (by first | exact ZPure0.pure (zp_fieldAddr_ptr rfl (by first | exact fld_Pos_0 | exact fld_Pos_1 | exact fld_Map_0) rfl) | exact ZPure0.pure (zp_fieldAddr_ref rfl (by first | exact fld_Pos_0 | exact fld_Pos_1 | exact fld_Map_0) rfl)) ?_
    refine za_take (i := 5) rfl (by kernel_rfl) (by kernel_rfl) (by kernel_rfl) (by first | exact g_none rfl | exact g_met rfl rfl rfl (by first | assumption | rfl)) rfl rfl (by first | exact ZPure0.pure (zp_fieldAddr_ptr rfl (by first | exact fld_Pos_0 | exact fld_Pos_1 | exact fld_Map_0) rfl) | exact ZPure0.pure (zp_fieldAddr_ref rfl (by first | exact fld_Pos_0 | exact fld_Pos_1 | exact fld_Map_0) rfl)) ?_
    refine za_take (i := 2) rfl (by kernel_rfl) (by kernel_rfl) (by kernel_rfl) (by first | exact g_none rfl | exact g_met rfl rfl rfl (by first | assumption | rfl)) rfl rfl (zp_load_ref rfl sh_Int rfl rfl) ?_
    refine za_take (i := 6) rfl (by kernel_rfl) (by kernel_rfl) (by kernel_rfl) (by first | exact g_none rfl | exact g_met rfl rfl rfl (by first | assumption | rfl)) rfl rfl (zp_load_ref rfl sh_U64 rfl rfl) ?_
    refine za_take (i := 3) rfl (by kernel_rfl) (by kernel_rfl) (by kernel_rfl) (by first | exact g_none rfl | exact g_met rfl rfl rfl (by first | assumption | rfl)) rfl rfl (ZPure0.pure (zp_conv rfl rfl (by first | exact Try.underlying2 | exact Try.underlying3 | exact Try.underlying5 | exact Try.underlying6 | exact Try.underlying12 | exact Try.underlying21 | exact Try.underlying28 | exact Try.underlying30 | exact Try.underlying94 | exact Try.underlying95 | exact Try.underlying96 | exact Try.underlying99 | exact Try.underlying100) (by first | exact Try.underlying2 | exact Try.underlying3 | exact Try.underlying5 | exact Try.underlying6 | exact Try.underlying12 | exact Try.underlying21 | exact Try.underlying28 | exact Try.underlying30 | exact Try.underlying94 | exact Try.underlying95 | exact Try.underlying96 | exact Try.underlying99 | exact Try.underlying100) (by first | exact wrap_in64 (by omega) (by omega) | exact wrap_inU64 (by omega) (by omega)))) ?_
    refine za_one (i := 4) (by kernel_rfl) rfl (by first | exact g_none rfl | exact g_met rfl rfl rfl (by first | assumption | rfl)) (zop_callU put_snd Try.func19 (by kernel_rfl) rfl rfl rfl (by decide) rfl rfl (by first | exact Ups.nilrow 1 (Ups.nilrow 1 (Ups.nilrow 1 (Ups.refl _))) | exact Ups.nilrow 1 (Ups.nilrow 1 (Ups.refl _)) | exact Ups.same (Ups.nilrow 1 (Ups.nilrow 1 (Ups.refl _))) | exact Ups.nilrow 1 (Ups.same (Ups.nilrow 1 (Ups.refl _))) | exact Ups.nilrow 1 (Ups.refl _) | exact Ups.same (Ups.nilrow 1 (Ups.refl _)) | exact Ups.same (Ups.same (Ups.nilrow 1 (Ups.refl _))) | exact Ups.refl _) ?_)
    refine ⟨_, _, rfl, by omega, by omega, fun t1 ht1 ht10 => ?_⟩
    refine za_forget s (fun _ _ e => e) (fun q e => by simp [e]) ?_
    refine za_one (i := 7) (by kernel_rfl) rfl (by first | exact g_none rfl | exact g_met rfl rfl rfl (by first | assumption | rfl)) (zop_callU put_snd Try.func19 (by kernel_rfl) rfl rfl rfl (by decide) rfl rfl (by first | exact Ups.nilrow 1 (Ups.nilrow 1 (Ups.nilrow 1 (Ups.refl _))) | exact Ups.nilrow 1 (Ups.nilrow 1 (Ups.refl _)) | exact Ups.same (Ups.nilrow 1 (Ups.nilrow 1 (Ups.refl _))) | exact Ups.nilrow 1 (Ups.same (Ups.nilrow 1 (Ups.refl _))) | exact Ups.nilrow 1 (Ups.refl _) | exact Ups.same (Ups.nilrow 1 (Ups.refl _)) | exact Ups.same (Ups.same (Ups.nilrow 1 (Ups.refl _))) | exact Ups.refl _) ?_)
    refine ⟨_, _, rfl, by omega, by omega, fun t2 ht2 ht20 => ?_⟩
    refine za_forget s (fun _ _ e => e) (fun q e => by simp [e]) ?_
    refine za_one_val (i := 8) (by kernel_rfl) rfl (by first | exact g_none rfl | exact g_met rfl rfl rfl (by first | assumption | rfl)) rfl rfl (zv_lit (xs := [.tmp 15, .tmp 19, .tmp 22]) rfl rfl el_Row (by first | exact Try.underlying22 | exact Try.underlying47 | exact Try.underlying50 | exact Try.underlying59 | exact Try.underlying61 | exact Try.underlying73 | exact Try.underlying74 | exact Try.underlying78) rfl (by simp [cellsD, oneD]) (by decide) ?_)
    refine za_one (i := 9) (by kernel_rfl) rfl (by first | exact g_none rfl | exact g_met rfl rfl rfl (by first | assumption | rfl)) (zop_callU concat_snd Try.func52 (by kernel_rfl) rfl rfl rfl (by decide) rfl rfl (by first | exact Ups.nilrow 1 (Ups.nilrow 1 (Ups.nilrow 1 (Ups.refl _))) | exact Ups.nilrow 1 (Ups.nilrow 1 (Ups.refl _)) | exact Ups.same (Ups.nilrow 1 (Ups.nilrow 1 (Ups.refl _))) | exact Ups.nilrow 1 (Ups.same (Ups.nilrow 1 (Ups.refl _))) | exact Ups.nilrow 1 (Ups.refl _) | exact Ups.same (Ups.nilrow 1 (Ups.refl _)) | exact Ups.same (Ups.same (Ups.nilrow 1 (Ups.refl _))) | exact Ups.refl _) ?_)
    refine ⟨[(stateM (l.take i), t), (putB q.1 4, t1), (putB q.2 8, t2)], _, rfl, by simp, by simp [putB4_length, putB8_length]; omega, ?_⟩
    refine za_take (i := 10) rfl (by kernel_rfl) (by kernel_rfl) (by kernel_rfl) (by first | exact g_none rfl | exact g_met rfl rfl rfl (by first | assumption | rfl)) rfl rfl (ZPure0.pure (zp_assign rfl rfl)) ?_
    first | refine za_end (by kernel_rfl) ?_ | refine za_endB (by kernel_rfl) ?_ | refine za_endBB (by kernel_rfl) ?_
    (repeat (first | ((with_reducible apply zr_region); (try simp only [List.append_eq, List.cons_append, List.nil_append])) | ((with_reducible apply zo_end)) | ((with_reducible apply zs_move); (exact rfl); (exact rfl)) | ((with_reducible apply zs_add); (exact rfl); (exact rfl); (exact rfl); (exact wrap_in64 (by omega) (by omega)))))
    refine ⟨m - 1, [(3, .row (bytesD (stateM (l.take (i + 1)))) 1 0), (9, .mrow r 0 l.length l.length), (10, .v (.int .i64 (l.length : Nat))), (11, .v (.int .i64 ((i + 1) : Nat)))], by omega, ⟨i + 1, 0, by omega, rfl, rfl⟩, sub_cons ?_ (by repeat (first | exact sub_nil _ | refine sub_cons rfl ?_ | refine sub_cons (by first | rfl | (simp [zlook]; done)) ?_))⟩
    rw [hst]; simp [zlook]
  · have g1 : decide ((i : Int) < (l.length : Nat)) = false := decide_eq_false (by omega)
    (repeat (first | ((with_reducible apply zr_seq)) | ((with_reducible apply zr_region); (try simp only [List.append_eq, List.cons_append, List.nil_append])) | ((with_reducible apply zo_end)) | ((with_reducible apply zs_move); (exact rfl); (exact rfl)) | ((with_reducible apply zs_assign); (exact rfl); (exact rfl)) | ((with_reducible apply zr_cond_f); (exact rfl); (first | assumption | exact rfl)) | (with_reducible refine zr_exit ?_; simp only [Zthen, Zblock, ↓reduceIte])))
    obtain rfl : i = l.length := by omega
    refine zr_retZ rfl (resD_row0 rfl (resD_nil _ _ _)) ?_
    rw [List.take_length]
    exact KE.mk s (Ext.refl _) hK
end Go.Proofs.ZtLe
