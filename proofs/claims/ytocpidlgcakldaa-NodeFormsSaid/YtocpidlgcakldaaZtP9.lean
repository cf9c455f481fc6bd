/- A part of the proof of NodeMsgForms: walks of the functions that it reaches. No condition. -/
import Derived.Test.YtocpidlgcakldaaZtP8
import Derived.Test.YtocpidlgcakldaaZmAuto
import Derived.Test.YtocpidlgcakldaaZmP2
namespace Go.Proofs.ZtLe
open Go.RowKit Go.Proofs Go.Proofs.Zm
set_option linter.unusedVariables false
set_option linter.unusedSimpArgs false
set_option maxHeartbeats 20000000
set_option maxRecDepth 100000
attribute [local irreducible] ZWp ZOps ZPure ZPure0 ZVal ZOp SoundF

/-! ### node.Code -/
structure NodeT (n : NodeV) : Prop where
  s : NodeS n
  keys : ∀ k ∈ n.keys, k.length ≤ 2147483648
  vals : ∀ v ∈ n.vals, v.length ≤ 2147483648
theorem code_own : SoundF Try.prog 12 fun args st K => ∃ (c : CfgV) (n : NodeV), args = [.agg (cfgD c), .agg (nodeD n)] ∧ NodeT n ∧ (codeN c n = none → K (.tup [.v (.slice none 0 0), .v (.bool false)]) st) ∧
    (codeN c n = some (codeB c n) → GoodF c n → ∀ o q f st', Sep st st' [(o, f)] → GRow o f 1 (codeB c n).length q (bytesD (codeB c n)).flatten → K (.tup [orow o (codeB c n).length q, .v (.bool true)]) st') := by
  refine sound_ofA Try.func12 rfl Try.results12 ?_
  rintro w0 args st K ⟨c, n, rfl, ht, hK0, hK⟩
  rw [Try.ntmps12]; refine ⟨by simp, ?_⟩
  have hS := Sep.nil st
  have hns := ht.s
  have hr1 : (rowR n.keys).length = n.keys.length := rowR_length _
  have hr2 : (rowR n.vals).length = n.vals.length := rowR_length _
  have hr3 : (intR n.kids).length = n.kids.length := intR_length _
  have hr4 : (msgR n.msgs).length = n.msgs.length := msgR_length _
  cases h0 : (okC c && goodN c n)
  · have g0 : (!(okC c && goodN c n)) = true := by rw [h0]; rfl
    have e : codeN c n = none := by unfold codeN; rw [if_neg (by rw [h0]; simp)]
    (repeat (first | ((with_reducible apply zr_seq)) | ((with_reducible apply zr_region); (try simp only [List.append_eq, List.cons_append, List.nil_append])) | ((with_reducible apply zo_end)) | ((with_reducible apply zs_assign); (exact rfl); (exact rfl)) | ((with_reducible apply zs_not); (exact rfl); (exact rfl)) | ((with_reducible apply zr_cond_t); (exact rfl); (first | assumption | exact rfl)) | ((with_reducible apply zs_load_refAll); (exact rfl); (exact rfl); (exact sh_of rfl); (exact rfl)) | ((with_reducible apply (zs_boxRef (t := 2))); (exact rfl); (exact rfl)) | ((with_reducible apply (zs_boxRef (t := 3))); (exact rfl); (exact rfl)) | ((with_reducible apply (zs_callQ good_pf cl_42)); (exact rfl); (exact rfl); ((repeat (first | exact DLes.nil | (apply DLes.cons; first | exact DLe.refl _ | exact DLe.nilB | exact DLe.nilR | exact DLe.nilI | exact dle_mnone)))); (first | exact trivial | assumption | ((repeat' (with_reducible refine And.intro ?_ ?_)) <;> first | assumption | omega | exact trivial | (simp; done) | (simp; omega)))) | ((with_reducible apply zr_retZ); (exact rfl); (repeat (first | exact resD_nil _ _ _ | ((with_reducible apply resD_tmp); (exact rfl)) | ((with_reducible apply resD_cell_agg); (exact rfl); (exact sh_of rfl); (first | assumption | exact St.setH_self _ _ _ | exact Sep.at_ (i := 0) zq27 rfl | exact Sep.at_ (i := 1) zq27 rfl | exact Sep.at_ (i := 2) zq27 rfl | exact Sep.at_ (i := 3) zq27 rfl | exact Sep.at_ (i := 4) zq27 rfl | exact Sep.at_ (i := 5) zq27 rfl | exact Sep.at_ (i := 6) zq27 rfl); (exact rfl)) | ((with_reducible apply resD_cell); (exact rfl); (exact sh_of rfl); (first | assumption | exact St.setH_self _ _ _ | exact Sep.at_ (i := 0) zq27 rfl | exact Sep.at_ (i := 1) zq27 rfl | exact Sep.at_ (i := 2) zq27 rfl | exact Sep.at_ (i := 3) zq27 rfl | exact Sep.at_ (i := 4) zq27 rfl | exact Sep.at_ (i := 5) zq27 rfl | exact Sep.at_ (i := 6) zq27 rfl); (exact rfl)))); (simp only [resOf]))))
    exact KE.mk _ hS.ext (hK0 e)
  · have g0 : (!(okC c && goodN c n)) = false := by rw [h0]; rfl
    have e : codeN c n = some (codeB c n) := by unfold codeN; rw [if_pos h0]
    have hgf := good_f h0
    replace hK := hK e hgf
    have hcn : ((cntN n : Nat) : Int) ≤ 1000 := by
      obtain ⟨_, _, q3, _, q5⟩ := okC_t hgf.ok
      unfold cntN
      cases hl : n.leaf
      · have := (hgf.inn hl).kf; simp only [Bool.cond_false]; omega
      · have := (hgf.lf hl).klen; simp only [Bool.cond_true]; omega
    have hms : ((n.msgs.length : Nat) : Int) ≤ 1000 := by
      obtain ⟨_, _, _, q4, _⟩ := okC_t hgf.ok
      cases hl : n.leaf
      · have := (hgf.inn hl).mlen; omega
      · rw [(hgf.lf hl).msgs]; simp
    (repeat (first | ((with_reducible apply zr_seq)) | ((with_reducible apply zr_region); (try simp only [List.append_eq, List.cons_append, List.nil_append])) | ((with_reducible apply zo_end)) | ((with_reducible apply zs_assign); (exact rfl); (exact rfl)) | ((with_reducible apply zs_not); (exact rfl); (exact rfl)) | ((with_reducible apply zr_cond_f); (exact rfl); (first | assumption | exact rfl)) | ((with_reducible apply zr_skip')) | ((with_reducible apply zs_load_refAll); (exact rfl); (exact rfl); (exact sh_of rfl); (exact rfl)) | ((with_reducible apply (zs_boxRef (t := 2))); (exact rfl); (exact rfl)) | ((with_reducible apply (zs_boxRef (t := 3))); (exact rfl); (exact rfl)) | ((with_reducible apply (zs_callQ good_pf cl_42)); (exact rfl); (exact rfl); ((repeat (first | exact DLes.nil | (apply DLes.cons; first | exact DLe.refl _ | exact DLe.nilB | exact DLe.nilR | exact DLe.nilI | exact dle_mnone)))); (first | exact trivial | assumption | ((repeat' (with_reducible refine And.intro ?_ ?_)) <;> first | assumption | omega | exact trivial | (simp; done) | (simp; omega))))))
    refine zc_begin (m := 5) ([]) [] zq28 rfl ?_
    refine zc_take0 (i := 0) rfl zq28 zq28 zq28 zq28 zq20 rfl rfl zq14 ?_
    refine zc_take0 (i := 1) rfl zq28 zq28 zq28 zq28 zq20 rfl rfl (zp_load_ref rfl zq25 rfl rfl) ?_
    refine zc_take0 (i := 2) rfl zq28 zq28 zq28 zq28 zq20 rfl rfl zq7 ?_
    refine zc_take0 (i := 3) rfl zq28 zq28 zq28 zq28 zq20 rfl rfl (ZPure0.pure (zp_assign rfl rfl)) ?_
    refine zc_take0 (i := 4) rfl zq28 zq28 zq28 zq28 zq20 rfl rfl (ZPure0.pure (zp_assign rfl rfl)) ?_
    refine zc_end (fun _ => by first | assumption | (repeat (first | exact BOwn.nil _ | refine BOwn.cons zq5 ?_))) zq28 ?_
    refine zr_seq ?_
    refine zr_cutK [2, 3] (fun e s => e = [(6, .v (.int .u8 ((bif n.leaf then (1 : UInt8) else 2).toNat : Nat))), (7, .v (.int .i64 (cntN n : Nat)))] ∧ Zm.Sep st s []) zq15 ?_ ?_
    · cases hl : n.leaf
      · (repeat (first | ((with_reducible apply zr_seq)) | ((with_reducible apply zr_region); (try simp only [List.append_eq, List.cons_append, List.nil_append])) | ((with_reducible apply zo_end)) | ((with_reducible apply zr_cond_f); (exact rfl); (first | assumption | exact rfl)) | ((with_reducible apply zr_skip')) | ((with_reducible apply zs_field_ref); (exact rfl); (exact rfl); (exact fld_of rfl)) | ((with_reducible apply zs_load_ref); (exact rfl); (exact rfl); (exact sh_of rfl); (exact rfl))))
        rw [show (intR n.kids).length = cntN n by rw [hr3]; unfold cntN; rw [hl]; rfl, hl]
        exact ⟨_, ⟨rfl, hS⟩, zq17, zq17⟩
      · (repeat (first | ((with_reducible apply zr_seq)) | ((with_reducible apply zr_region); (try simp only [List.append_eq, List.cons_append, List.nil_append])) | ((with_reducible apply zo_end)) | ((with_reducible apply zr_cond_t); (exact rfl); (first | assumption | exact rfl)) | ((with_reducible apply zs_field_ref); (exact rfl); (exact rfl); (exact fld_of rfl)) | ((with_reducible apply zs_load_ref); (exact rfl); (exact rfl); (exact sh_of rfl); (exact rfl))))
        refine zc_begin (m := 5) ([]) [] zq28 rfl ?_
        refine zc_take0 (i := 0) rfl zq28 zq28 zq28 zq28 zq20 rfl rfl zq14 ?_
        refine zc_take0 (i := 1) rfl zq28 zq28 zq28 zq28 zq20 rfl rfl (zp_load_ref rfl zq25 rfl rfl) ?_
        refine zc_take0 (i := 2) rfl zq28 zq28 zq28 zq28 zq20 rfl rfl zq7 ?_
        refine zc_take0 (i := 3) rfl zq28 zq28 zq28 zq28 zq20 rfl rfl (ZPure0.pure (zp_assign rfl rfl)) ?_
        refine zc_take0 (i := 4) rfl zq28 zq28 zq28 zq28 zq20 rfl rfl (ZPure0.pure (zp_assign rfl rfl)) ?_
        refine zc_end (fun _ => by first | assumption | (repeat (first | exact BOwn.nil _ | refine BOwn.cons zq5 ?_))) zq28 ?_
        skip
        rw [show (rowR n.keys).length = cntN n by rw [hr1]; unfold cntN; rw [hl]; rfl, hl]
        exact ⟨_, ⟨rfl, hS⟩, zq17, zq17⟩
    rintro e s ⟨rfl, hS⟩
    obtain ⟨k, hk⟩ : ∃ k : UInt8, k = bif n.leaf then (1 : UInt8) else 2 := ⟨_, rfl⟩
    rw [← hk]
    have hhd : [[k], putB (cntN n : Nat) 2, putB (n.msgs.length : Nat) 2].flatten = headB n := by unfold headB; rw [hk]; simp
    have hh5 := headB_len n
    have hq1 : 0 ≤ ((cntN n : Nat) : Int) ∧ ((cntN n : Nat) : Int) < 18446744073709551616 := by omega
    have hq2 : 0 ≤ (((msgR n.msgs).length : Nat) : Int) ∧ (((msgR n.msgs).length : Nat) : Int) < 18446744073709551616 := by omega
    (repeat (first | ((with_reducible apply zr_seq))))
    refine zr_cutK [2, 3] (fun e s => ∃ o q f, e = [(8, orow o (headB n).length q)] ∧ Zm.Sep st s [(o, f)] ∧ GRow o f 1 (headB n).length q (bytesD (headB n)).flatten) zq15 ?_ ?_
    · refine zc_begin (m := 13) ([]) [] zq28 rfl ?_
      refine zc_take0 (i := 0) rfl zq28 zq28 zq28 zq28 zq20 rfl rfl (ZPure0.pure (zp_move rfl rfl)) ?_
      refine zc_take0 (i := 2) rfl zq28 zq28 zq28 zq28 zq20 rfl rfl (ZPure0.pure (zp_move rfl rfl)) ?_
      refine zc_take0 (i := 3) rfl zq28 zq28 zq28 zq28 zq20 rfl rfl (ZPure0.pure (zp_conv rfl rfl (by exact un_int rfl) (by exact un_int rfl) (by first | (with_reducible assumption) | exact wrap_in64 (by omega) (by omega) | exact wrap_inU64 (by omega) (by omega)))) ?_
      refine zc_take0 (i := 5) rfl zq28 zq28 zq28 zq28 zq20 rfl rfl zq14 ?_
      refine zc_take0 (i := 6) rfl zq28 zq28 zq28 zq28 zq20 rfl rfl (zp_load_ref rfl zq25 rfl rfl) ?_
      refine zc_take0 (i := 7) rfl zq28 zq28 zq28 zq28 zq20 rfl rfl zq7 ?_
      refine zc_take0 (i := 8) rfl zq28 zq28 zq28 zq28 zq20 rfl rfl (ZPure0.pure (zp_conv rfl rfl (by exact un_int rfl) (by exact un_int rfl) (by first | (with_reducible assumption) | exact wrap_in64 (by omega) (by omega) | exact wrap_inU64 (by omega) (by omega)))) ?_
      skip
      refine zc_all2 (i := 1) (j := 4) (fun _ => by first | assumption | (repeat (first | exact BOwn.nil _ | refine BOwn.cons zq5 ?_))) zq28 ?_ ?_
      · refine zoneC_op (i := 1) (fun _ => by first | assumption | (repeat (first | exact BOwn.nil _ | refine BOwn.cons zq5 ?_))) rfl zq20 ?_
        refine ZVal.op rfl (by decide) (zv_lit (e := 5) (xs := [.tmp 33]) rfl rfl zq24 zq26 rfl (by simp [cellsD, oneD, Value.oneCell']) (by decide) ?_)
        refine zc_one (i := 4) (fun _ => by first | assumption | (repeat (first | exact BOwn.nil _ | refine BOwn.cons zq5 ?_))) zq28 rfl zq20 (zop_callQ put_pf cl_44 rfl rfl (by decide) rfl rfl zq13 zq11 ?_)
        refine zc_one (i := 9) (fun _ => by first | assumption | (repeat (first | exact BOwn.nil _ | refine BOwn.cons zq5 ?_))) zq28 rfl zq20 (zop_callQ put_pf cl_44 rfl rfl (by decide) rfl rfl zq13 zq11 ?_)
        skip
        refine zc_one_val (i := 10) (fun _ => by first | assumption | (repeat (first | exact BOwn.nil _ | refine BOwn.cons zq5 ?_))) zq28 rfl zq20 rfl rfl (zv_litR (xs := [.tmp 34, .tmp 37, .tmp 42]) _ rfl rfl rfl zq26 zq24 zq22 zq23 (by decide) ?_)
        refine zc_one (i := 11) (fun _ => by first | assumption | (repeat (first | exact BOwn.nil _ | refine BOwn.cons zq5 ?_))) zq28 rfl zq20 (zop_callU concat_own Try.func43 zq28 rfl rfl rfl (by decide) rfl rfl (Ups.refl _) ?_)
        refine ⟨[[k], putB (cntN n : Nat) 2, putB (n.msgs.length : Nat) 2], 0, by rw [← hr4]; rfl, by simp, by rw [hhd, hh5]; omega, fun o q f s2 hS2 hg => ?_⟩
        rw [hhd] at hg ⊢
        have hS : Zm.Sep st s2 [(o, f)] := hS.trans hS2
        refine zc_take0 (i := 12) rfl zq28 zq28 zq28 zq28 zq20 rfl rfl (ZPure0.pure (zp_assign rfl rfl)) ?_
        refine zc_end (fun _ => by first | assumption | (repeat (first | exact BOwn.nil _ | refine BOwn.cons zq5 ?_))) zq28 ?_
        exact ⟨_, ⟨o, q, f, rfl, hS, hg⟩, zq17, zq17⟩
      · refine zoneC_op (i := 4) (fun _ => by first | assumption | (repeat (first | exact BOwn.nil _ | refine BOwn.cons zq5 ?_))) rfl zq20 ?_
        refine zop_callQ put_pf cl_44 rfl rfl (by decide) rfl rfl (.cons (.refl _) (.cons (.refl _) .nil)) hq1 ?_
        skip
        refine zc_all2 (i := 1) (j := 9) (fun _ => by first | assumption | (repeat (first | exact BOwn.nil _ | refine BOwn.cons zq5 ?_))) zq28 ?_ ?_
        · refine zoneC_op (i := 1) (fun _ => by first | assumption | (repeat (first | exact BOwn.nil _ | refine BOwn.cons zq5 ?_))) rfl zq20 ?_
          refine ZVal.op rfl (by decide) (zv_lit (e := 5) (xs := [.tmp 33]) rfl rfl zq24 zq26 rfl (by simp [cellsD, oneD, Value.oneCell']) (by decide) ?_)
          refine zc_one (i := 9) (fun _ => by first | assumption | (repeat (first | exact BOwn.nil _ | refine BOwn.cons zq5 ?_))) zq28 rfl zq20 (zop_callQ put_pf cl_44 rfl rfl (by decide) rfl rfl zq13 zq11 ?_)
          skip
          refine zc_one_val (i := 10) (fun _ => by first | assumption | (repeat (first | exact BOwn.nil _ | refine BOwn.cons zq5 ?_))) zq28 rfl zq20 rfl rfl (zv_litR (xs := [.tmp 34, .tmp 37, .tmp 42]) _ rfl rfl rfl zq26 zq24 zq22 zq23 (by decide) ?_)
          refine zc_one (i := 11) (fun _ => by first | assumption | (repeat (first | exact BOwn.nil _ | refine BOwn.cons zq5 ?_))) zq28 rfl zq20 (zop_callU concat_own Try.func43 zq28 rfl rfl rfl (by decide) rfl rfl (Ups.refl _) ?_)
          refine ⟨[[k], putB (cntN n : Nat) 2, putB (n.msgs.length : Nat) 2], 0, by rw [← hr4]; rfl, by simp, by rw [hhd, hh5]; omega, fun o q f s2 hS2 hg => ?_⟩
          rw [hhd] at hg ⊢
          have hS : Zm.Sep st s2 [(o, f)] := hS.trans hS2
          refine zc_take0 (i := 12) rfl zq28 zq28 zq28 zq28 zq20 rfl rfl (ZPure0.pure (zp_assign rfl rfl)) ?_
          refine zc_end (fun _ => by first | assumption | (repeat (first | exact BOwn.nil _ | refine BOwn.cons zq5 ?_))) zq28 ?_
          exact ⟨_, ⟨o, q, f, rfl, hS, hg⟩, zq17, zq17⟩
        · refine zoneC_op (i := 9) (fun _ => by first | assumption | (repeat (first | exact BOwn.nil _ | refine BOwn.cons zq5 ?_))) rfl zq20 ?_
          refine zop_callQ put_pf cl_44 rfl rfl (by decide) rfl rfl (.cons (.refl _) (.cons (.refl _) .nil)) hq2 ?_
          skip
          refine zc_one_val (i := 1) (fun _ => by first | assumption | (repeat (first | exact BOwn.nil _ | refine BOwn.cons zq5 ?_))) zq28 rfl zq20 rfl rfl (zv_lit (e := 5) (xs := [.tmp 33]) rfl rfl zq24 zq26 rfl (by simp [cellsD, oneD, Value.oneCell']) (by decide) ?_)
          skip
          refine zc_one_val (i := 10) (fun _ => by first | assumption | (repeat (first | exact BOwn.nil _ | refine BOwn.cons zq5 ?_))) zq28 rfl zq20 rfl rfl (zv_litR (xs := [.tmp 34, .tmp 37, .tmp 42]) _ rfl rfl rfl zq26 zq24 zq22 zq23 (by decide) ?_)
          refine zc_one (i := 11) (fun _ => by first | assumption | (repeat (first | exact BOwn.nil _ | refine BOwn.cons zq5 ?_))) zq28 rfl zq20 (zop_callU concat_own Try.func43 zq28 rfl rfl rfl (by decide) rfl rfl (Ups.refl _) ?_)
          refine ⟨[[k], putB (cntN n : Nat) 2, putB (n.msgs.length : Nat) 2], 0, by rw [← hr4]; rfl, by simp, by rw [hhd, hh5]; omega, fun o q f s2 hS2 hg => ?_⟩
          rw [hhd] at hg ⊢
          have hS : Zm.Sep st s2 [(o, f)] := hS.trans hS2
          refine zc_take0 (i := 12) rfl zq28 zq28 zq28 zq28 zq20 rfl rfl (ZPure0.pure (zp_assign rfl rfl)) ?_
          refine zc_end (fun _ => by first | assumption | (repeat (first | exact BOwn.nil _ | refine BOwn.cons zq5 ?_))) zq28 ?_
          exact ⟨_, ⟨o, q, f, rfl, hS, hg⟩, zq17, zq17⟩
    rintro e s ⟨o, q, f, rfl, hS, hg⟩
    (repeat (first | ((with_reducible apply zr_seq)) | ((with_reducible apply zr_region); (try simp only [List.append_eq, List.cons_append, List.nil_append])) | ((with_reducible apply zo_end)) | ((with_reducible apply zs_move); (exact rfl); (exact rfl)) | ((with_reducible apply zs_len); (exact rfl); (exact rfl); (exact un_sl rfl)) | ((with_reducible apply zr_block)) | ((with_reducible apply zs_field_ref); (exact rfl); (exact rfl); (exact fld_of rfl)) | ((with_reducible apply zs_load_ref); (exact rfl); (exact rfl); (exact sh_of rfl); (exact rfl))))
    have hkbd := fun k hk => keysB_bd hgf (k := k) hk
    have hpl : ∀ (l : Bs) (m : Int), (padB l m).length ≤ 60002 := fun l m => padL_len
    have hnk : n.keys.length ≤ 1000 := by
      obtain ⟨_, _, q3, _, q5⟩ := okC_t hgf.ok
      cases hl : n.leaf
      · have a := (hgf.inn hl).kf; have b := (hgf.inn hl).klen; omega
      · have a := (hgf.lf hl).klen; omega
    have hni : n.kids.length ≤ 1000 := by
      obtain ⟨_, _, q3, _, q5⟩ := okC_t hgf.ok
      cases hl : n.leaf
      · have a := (hgf.inn hl).kf; omega
      · rw [(hgf.lf hl).kids]; simp
    have e0 : headB n ++ keysB c n 0 = headB n := by simp [keysB]
    rw [← e0] at hg
    rw [← e0]
    refine zr_loopK [2, 3, 46, 47] (fun m e s => ∃ i o q f, m + i = n.keys.length ∧ e = [(8, orow o (headB n ++ keysB c n i).length q), (48, .v (.int .i64 (i : Nat)))] ∧ Zm.Sep st s [(o, f)] ∧ GRow o f 1 (headB n ++ keysB c n i).length q (bytesD (headB n ++ keysB c n i)).flatten) n.keys.length _ zq15 ⟨0, o, q, f, by omega, rfl, hS, hg⟩ zq17 ?_
    rintro m e s ⟨i, o, q, f, hm, rfl, hS, hg⟩
    (repeat (first | ((with_reducible apply zr_seq)) | ((with_reducible apply zr_region); (try simp only [List.append_eq, List.cons_append, List.nil_append])) | ((with_reducible apply zo_end)) | ((with_reducible apply zs_lss); (exact rfl); (exact rfl); (exact rfl))))
    (first | refine zr_cond rfl (fun h1 => ?_) (fun h1 => ?_) | refine zs_split rfl rfl (fun h1 => ?_) (fun h1 => ?_)) <;> have h1' := h1 <;> (try simp only [decide_eq_true_eq, decide_eq_false_iff_not, Bool.and_eq_true, Bool.or_eq_true, Bool.and_eq_false_iff, Bool.or_eq_false_iff, Bool.not_eq_true', Bool.not_eq_false', Bool.not_eq_true, Bool.not_eq_false, Int.not_le, Int.not_lt, Classical.not_not, Decidable.not_not, ne_eq, beq_iff_eq, bne_iff_ne] at h1')
    · have hi : i < n.keys.length := by omega
      obtain ⟨b, hb, hbt, _, hbg⟩ := eltK hi
      have hbl : b.length ≤ 140737488355328 := by have := ht.keys b (List.mem_of_getElem? hb); omega
      have hkb := hkbd i (by omega)
      have hpb := hpl b c.keyMax
      have hal : (headB n ++ keysB c n i).length = 5 + (keysB c n i).length := by rw [List.length_append, hh5]
      have hks := keysB_succ c n i
      have hkv : kvB c n i = padB b c.keyMax ++ (bif n.leaf then padB (n.vals.getD i []) c.valMax else []) := by unfold kvB; rw [getD_k hb]
      generalize hA : headB n ++ keysB c n i = A at *
      have hbb : (bytesD ((padL b c.keyMax).getD [])).length = (padB b c.keyMax).length := bytesD_length _
      cases hl : n.leaf
      · rw [hl] at hkv
        (repeat (first | ((with_reducible apply zr_seq)) | ((with_reducible apply zr_region); (try simp only [List.append_eq, List.cons_append, List.nil_append])) | ((with_reducible apply zo_end)) | ((with_reducible apply zs_move); (exact rfl); (exact rfl)) | ((with_reducible apply zs_assign); (exact rfl); (exact rfl)) | ((with_reducible apply zs_extract); (exact rfl); (exact rfl); (exact rfl)) | ((with_reducible apply zs_add); (exact rfl); (exact rfl); (exact rfl); (first | (with_reducible assumption) | exact wrap_in64 (by omega) (by omega))) | ((with_reducible apply zr_cond_f); (exact rfl); (first | assumption | exact rfl)) | ((with_reducible apply zr_block)) | ((with_reducible apply zr_skip')) | ((with_reducible apply zr_skipB)) | ((with_reducible apply zs_field_ref); (exact rfl); (exact rfl); (exact fld_of rfl)) | ((with_reducible apply zs_load_ref); (exact rfl); (exact rfl); (exact sh_of rfl); (exact rfl)) | ((with_reducible apply zs_idxE); (exact rfl); (exact rfl); (exact rfl); (exact un_sl rfl); (exact ii_of rfl); (first | omega | (simp only [List.length_map, List.length_take, List.length_drop, List.length_append, List.length_cons, List.length_nil, List.length_replicate, rowR_length, intR_length, msgR_length, pairR_length]; omega) | decide); (first | omega | (simp only [List.length_map, List.length_take, List.length_drop, List.length_append, List.length_cons, List.length_nil, List.length_replicate, rowR_length, intR_length, msgR_length, pairR_length]; omega) | decide); (first | (with_reducible exact Int.toNat_natCast _) | (simp only [Int.reduceToNat]; exact rfl) | exact rfl); (assumption)) | ((with_reducible apply (zs_callQ pad_pf cl_45)); (exact rfl); (exact rfl); ((repeat (first | exact DLes.nil | (apply DLes.cons; first | exact DLe.refl _ | exact DLe.nilB | exact DLe.nilR | exact DLe.nilI | exact dle_mnone)))); (first | exact trivial | assumption | ((repeat' (with_reducible refine And.intro ?_ ?_)) <;> first | assumption | omega | exact trivial | (simp; done) | (simp; omega)))) | ((with_reducible apply (zs_sapp (i := 0))); (exact rfl); (exact rfl); (exact rfl); (exact un_sl rfl); (exact el_of rfl); (simp [oneD, Value.oneCell']); (assumption); (exact rfl); (assumption); ((try simp only [List.length_map, List.length_cons, List.length_nil, List.length_take, List.length_drop, List.length_append, rowR_length, intR_length, msgR_length, pairR_length]); omega); (intro o1 c1 f1 sS hS hg); (try simp only [List.set_cons_zero, List.set_cons_succ] at hS))))
        have hA1 : headB n ++ keysB c n (i + 1) = A ++ (padL b c.keyMax).getD [] := by rw [hks, hkv, ← List.append_assoc, hA]; simp [padB]
        have hAl : (headB n ++ keysB c n (i + 1)).length = A.length + (bytesD ((padL b c.keyMax).getD [])).length := by rw [hA1, List.length_append, bytesD_length]
        rw [← List.flatten_append, ← bytesD_append, ← hA1, ← hAl] at hg
        rw [← hAl]
        exact ⟨m - 1, _, by omega, ⟨i + 1, _, _, _, by omega, rfl, hS, hg⟩, zq17, zq17⟩
      · rw [hl] at hkv
        have hf := hgf.lf hl
        obtain ⟨v, hv, hvt, _, hvg⟩ := eltK (l := n.vals) (i := i) (by rw [hf.vlen]; omega)
        have hvl : v.length ≤ 140737488355328 := by have := ht.vals v (List.mem_of_getElem? hv); omega
        have hpv := hpl v c.valMax
        have hvv : (bytesD ((padL v c.valMax).getD [])).length = (padB v c.valMax).length := bytesD_length _
        rw [getD_k hv] at hkv
        have hvn : i < (rowR n.vals).length := by rw [hr2, hf.vlen]; omega
        (repeat (first | ((with_reducible apply zr_seq)) | ((with_reducible apply zr_region); (try simp only [List.append_eq, List.cons_append, List.nil_append])) | ((with_reducible apply zo_end)) | ((with_reducible apply zs_move); (exact rfl); (exact rfl)) | ((with_reducible apply zs_assign); (exact rfl); (exact rfl)) | ((with_reducible apply zs_extract); (exact rfl); (exact rfl); (exact rfl)) | ((with_reducible apply zr_cond_t); (exact rfl); (first | assumption | exact rfl)) | ((with_reducible apply zr_block)) | ((with_reducible apply zr_skip')) | ((with_reducible apply zs_field_ref); (exact rfl); (exact rfl); (exact fld_of rfl)) | ((with_reducible apply zs_load_ref); (exact rfl); (exact rfl); (exact sh_of rfl); (exact rfl)) | ((with_reducible apply zs_idxE); (exact rfl); (exact rfl); (exact rfl); (exact un_sl rfl); (exact ii_of rfl); (first | omega | (simp only [List.length_map, List.length_take, List.length_drop, List.length_append, List.length_cons, List.length_nil, List.length_replicate, rowR_length, intR_length, msgR_length, pairR_length]; omega) | decide); (first | omega | (simp only [List.length_map, List.length_take, List.length_drop, List.length_append, List.length_cons, List.length_nil, List.length_replicate, rowR_length, intR_length, msgR_length, pairR_length]; omega) | decide); (first | (with_reducible exact Int.toNat_natCast _) | (simp only [Int.reduceToNat]; exact rfl) | exact rfl); (assumption)) | ((with_reducible apply (zs_callQ pad_pf cl_45)); (exact rfl); (exact rfl); ((repeat (first | exact DLes.nil | (apply DLes.cons; first | exact DLe.refl _ | exact DLe.nilB | exact DLe.nilR | exact DLe.nilI | exact dle_mnone)))); (first | exact trivial | assumption | ((repeat' (with_reducible refine And.intro ?_ ?_)) <;> first | assumption | omega | exact trivial | (simp; done) | (simp; omega)))) | ((with_reducible apply (zs_sapp (i := 0))); (exact rfl); (exact rfl); (exact rfl); (exact un_sl rfl); (exact el_of rfl); (simp [oneD, Value.oneCell']); (assumption); (exact rfl); (assumption); ((try simp only [List.length_map, List.length_cons, List.length_nil, List.length_take, List.length_drop, List.length_append, rowR_length, intR_length, msgR_length, pairR_length]); omega); (intro o1 c1 f1 sS hS hg); (try simp only [List.set_cons_zero, List.set_cons_succ] at hS))))
        refine zc_begin (m := 13) ([]) [] zq28 rfl ?_
        refine zc_take0 (i := 0) rfl zq28 zq28 zq28 zq28 zq20 rfl rfl zq14 ?_
        refine zc_take0 (i := 1) rfl zq28 zq28 zq28 zq28 zq20 rfl rfl (zp_load_ref rfl zq25 rfl rfl) ?_
        refine zc_take0 (i := 2) rfl zq28 zq28 zq28 zq28 zq20 rfl rfl (ZPure0.pure (zp_move rfl rfl)) ?_
        refine zc_take0 (i := 3) rfl zq28 zq28 zq28 zq28 zq20 rfl rfl zq0 ?_
        refine zc_take0 (i := 4) rfl zq28 zq28 zq28 zq28 zq20 rfl rfl (zp_load_ref rfl zq25 rfl rfl) ?_
        refine zc_take0 (i := 5) rfl zq28 zq28 zq28 zq28 zq20 rfl rfl zq14 ?_
        refine zc_take0 (i := 6) rfl zq28 zq28 zq28 zq28 zq20 rfl rfl (zp_load_ref rfl zq25 rfl rfl) ?_
        refine zc_one (i := 7) (fun _ => by first | assumption | (repeat (first | exact BOwn.nil _ | refine BOwn.cons zq5 ?_))) zq28 rfl zq20 (zop_callQ pad_pf cl_45 rfl rfl (by decide) rfl rfl zq13 zq11 ?_)
        refine zc_take0 (i := 8) rfl zq28 zq28 zq28 zq28 zq20 rfl rfl (ZPure0.pure (zp_move rfl rfl)) ?_
        refine zc_take0 (i := 9) rfl zq28 zq28 zq28 zq28 zq20 rfl rfl (ZPure0.pure (zp_extract rfl rfl rfl)) ?_
        refine zc_take0 (i := 10) rfl zq28 zq28 zq28 zq28 zq20 rfl rfl (ZPure0.pure (zp_extract rfl rfl rfl)) ?_
        refine zc_take0 (i := 11) rfl zq28 zq28 zq28 zq28 zq20 rfl rfl (ZPure0.pure (zp_assign rfl rfl)) ?_
        refine zc_take0 (i := 12) rfl zq28 zq28 zq28 zq28 zq20 rfl rfl (ZPure0.pure (zp_assign rfl rfl)) ?_
        refine zc_end (fun _ => by first | assumption | (repeat (first | exact BOwn.nil _ | refine BOwn.cons zq5 ?_))) zq28 ?_
        (repeat (first | ((with_reducible apply zr_region); (try simp only [List.append_eq, List.cons_append, List.nil_append])) | ((with_reducible apply zo_end)) | ((with_reducible apply zo_endB)) | ((with_reducible apply zs_move); (exact rfl); (exact rfl)) | ((with_reducible apply zs_assign); (exact rfl); (exact rfl)) | ((with_reducible apply zs_add); (exact rfl); (exact rfl); (exact rfl); (first | (with_reducible assumption) | exact wrap_in64 (by omega) (by omega))) | ((with_reducible apply (zs_sapp (i := 0))); (exact rfl); (exact rfl); (exact rfl); (exact un_sl rfl); (exact el_of rfl); (simp [oneD, Value.oneCell']); (assumption); (exact rfl); (assumption); ((try simp only [List.length_map, List.length_cons, List.length_nil, List.length_take, List.length_drop, List.length_append, rowR_length, intR_length, msgR_length, pairR_length]); omega); (intro o1 c1 f1 sS hS hg); (try simp only [List.set_cons_zero, List.set_cons_succ] at hS))))
        have hA1 : headB n ++ keysB c n (i + 1) = A ++ (padL b c.keyMax).getD [] ++ (padL v c.valMax).getD [] := by rw [hks, hkv, ← List.append_assoc, hA]; simp [padB]
        have hAl : (headB n ++ keysB c n (i + 1)).length = A.length + (bytesD ((padL b c.keyMax).getD [])).length + (bytesD ((padL v c.valMax).getD [])).length := by rw [hA1, List.length_append, List.length_append, bytesD_length, bytesD_length]
        rw [← List.flatten_append, ← bytesD_append, ← List.flatten_append, ← bytesD_append, ← hA1, ← hAl] at hg
        rw [← hAl]
        exact ⟨m - 1, _, by omega, ⟨i + 1, _, _, _, by omega, rfl, hS, hg⟩, zq17, zq17⟩
    · have hi : i = n.keys.length := by omega
      subst hi
      have hkb := hkbd _ (Nat.le_refl n.keys.length)
      have hal : (headB n ++ keysB c n n.keys.length).length = 5 + (keysB c n n.keys.length).length := by rw [List.length_append, hh5]
      obtain ⟨A, hA⟩ : ∃ A, A = headB n ++ keysB c n n.keys.length := ⟨_, rfl⟩
      rw [← hA] at hg hal ⊢
      (repeat (first | ((with_reducible apply zr_seq)) | ((with_reducible apply zr_region); (try simp only [List.append_eq, List.cons_append, List.nil_append])) | ((with_reducible apply zo_end)) | ((with_reducible apply zs_move); (exact rfl); (exact rfl)) | ((with_reducible apply zs_len); (exact rfl); (exact rfl); (exact un_sl rfl)) | ((with_reducible apply zr_block)) | (with_reducible refine zr_exit ?_; simp only [Zthen, Zblock, ↓reduceIte]) | ((with_reducible apply zs_field_ref); (exact rfl); (exact rfl); (exact fld_of rfl)) | ((with_reducible apply zs_load_ref); (exact rfl); (exact rfl); (exact sh_of rfl); (exact rfl))))
      have e0 : A ++ kidsB (n.kids.take 0) = A := by simp [kidsB]
      rw [← e0] at hg
      rw [← e0]
      refine zr_loopK [2, 3, 81, 82] (fun m e s => ∃ i o q f, m + i = n.kids.length ∧ e = [(8, orow o (A ++ kidsB (n.kids.take i)).length q), (83, .v (.int .i64 (i : Nat)))] ∧ Zm.Sep st s [(o, f)] ∧ GRow o f 1 (A ++ kidsB (n.kids.take i)).length q (bytesD (A ++ kidsB (n.kids.take i))).flatten) n.kids.length _ zq15 ⟨0, _, _, _, by omega, rfl, hS, hg⟩ zq17 ?_
      rintro m e s ⟨i, o, q, f, hm, rfl, hS, hg⟩
      (repeat (first | ((with_reducible apply zr_seq)) | ((with_reducible apply zr_region); (try simp only [List.append_eq, List.cons_append, List.nil_append])) | ((with_reducible apply zo_end)) | ((with_reducible apply zs_lss); (exact rfl); (exact rfl); (exact rfl))))
      (first | refine zr_cond rfl (fun h2 => ?_) (fun h2 => ?_) | refine zs_split rfl rfl (fun h2 => ?_) (fun h2 => ?_)) <;> have h2' := h2 <;> (try simp only [decide_eq_true_eq, decide_eq_false_iff_not, Bool.and_eq_true, Bool.or_eq_true, Bool.and_eq_false_iff, Bool.or_eq_false_iff, Bool.not_eq_true', Bool.not_eq_false', Bool.not_eq_true, Bool.not_eq_false, Int.not_le, Int.not_lt, Classical.not_not, Decidable.not_not, ne_eq, beq_iff_eq, bne_iff_ne] at h2')
      · obtain ⟨b, hb, hbt, _, hbg⟩ := eltI (l := n.kids) (i := i) (by omega)
        have hkid : 1 ≤ b ∧ b ≤ 2147483647 := by
          cases hl : n.leaf
          · exact (hgf.inn hl).kid b (List.mem_of_getElem? hb)
          · have := hb; rw [(hgf.lf hl).kids] at this; simp at this
        have hq3 : 0 ≤ b ∧ b < 18446744073709551616 := by omega
        have hkl := kidsB_len (n.kids.take i)
        rw [List.length_take] at hkl
        have hbl : (bytesD (putB b 4)).length = 4 := by rw [bytesD_length, nput4_len]
        have hAL : (A ++ kidsB (n.kids.take i)).length = A.length + (kidsB (n.kids.take i)).length := List.length_append
        have hks := kidsB_snoc hbt
        (repeat (first | ((with_reducible apply zr_seq)) | ((with_reducible apply zr_region); (try simp only [List.append_eq, List.cons_append, List.nil_append])) | ((with_reducible apply zo_end)) | ((with_reducible apply zo_endB)) | ((with_reducible apply zs_move); (exact rfl); (exact rfl)) | ((with_reducible apply zs_assign); (exact rfl); (exact rfl)) | ((with_reducible apply zs_add); (exact rfl); (exact rfl); (exact rfl); (first | (with_reducible assumption) | exact wrap_in64 (by omega) (by omega))) | ((with_reducible apply zs_conv); (exact rfl); (exact rfl); (exact un_int rfl); (exact un_int rfl); (first | first | (with_reducible assumption) | exact wrap_in64 (by omega) (by omega) | exact wrap_inU64 (by omega) (by omega))) | ((with_reducible apply zr_block)) | ((with_reducible apply zr_skip')) | ((with_reducible apply zs_load_ref); (exact rfl); (exact rfl); (exact sh_of rfl); (exact rfl)) | ((with_reducible apply zs_idxE); (exact rfl); (exact rfl); (exact rfl); (exact un_sl rfl); (exact ii_of rfl); (first | omega | (simp only [List.length_map, List.length_take, List.length_drop, List.length_append, List.length_cons, List.length_nil, List.length_replicate, rowR_length, intR_length, msgR_length, pairR_length]; omega) | decide); (first | omega | (simp only [List.length_map, List.length_take, List.length_drop, List.length_append, List.length_cons, List.length_nil, List.length_replicate, rowR_length, intR_length, msgR_length, pairR_length]; omega) | decide); (first | (with_reducible exact Int.toNat_natCast _) | (simp only [Int.reduceToNat]; exact rfl) | exact rfl); (assumption)) | ((with_reducible apply (zs_callQ put_pf cl_44)); (exact rfl); (exact rfl); ((repeat (first | exact DLes.nil | (apply DLes.cons; first | exact DLe.refl _ | exact DLe.nilB | exact DLe.nilR | exact DLe.nilI | exact dle_mnone)))); (first | exact trivial | assumption | ((repeat' (with_reducible refine And.intro ?_ ?_)) <;> first | assumption | omega | exact trivial | (simp; done) | (simp; omega)))) | ((with_reducible apply (zs_sapp (i := 0))); (exact rfl); (exact rfl); (exact rfl); (exact un_sl rfl); (exact el_of rfl); (simp [oneD, Value.oneCell']); (assumption); (exact rfl); (assumption); ((try simp only [List.length_map, List.length_cons, List.length_nil, List.length_take, List.length_drop, List.length_append, rowR_length, intR_length, msgR_length, pairR_length]); omega); (intro o1 c1 f1 sS hS hg); (try simp only [List.set_cons_zero, List.set_cons_succ] at hS))))
        have hA1 : A ++ kidsB (n.kids.take (i + 1)) = A ++ kidsB (n.kids.take i) ++ putB b 4 := by rw [hks, List.append_assoc]
        have hAl : (A ++ kidsB (n.kids.take (i + 1))).length = (A ++ kidsB (n.kids.take i)).length + (bytesD (putB b 4)).length := by rw [hA1, List.length_append, bytesD_length]
        rw [← List.flatten_append, ← bytesD_append, ← hA1, ← hAl] at hg
        rw [← hAl]
        exact ⟨m - 1, _, by omega, ⟨i + 1, _, _, _, by omega, rfl, hS, hg⟩, zq17, zq17⟩
      · have hi : i = n.kids.length := by omega
        subst hi
        have hkl := kidsB_len n.kids
        have hbl : (A ++ kidsB n.kids).length = A.length + (kidsB n.kids).length := List.length_append
        rw [List.take_length] at hg ⊢
        obtain ⟨B, hB⟩ : ∃ B, B = A ++ kidsB n.kids := ⟨_, rfl⟩
        rw [← hB] at hg hbl ⊢
        (repeat (first | ((with_reducible apply zr_seq)) | ((with_reducible apply zr_region); (try simp only [List.append_eq, List.cons_append, List.nil_append])) | ((with_reducible apply zo_end)) | ((with_reducible apply zs_move); (exact rfl); (exact rfl)) | ((with_reducible apply zs_len); (exact rfl); (exact rfl); (exact un_sl rfl)) | ((with_reducible apply zr_block)) | (with_reducible refine zr_exit ?_; simp only [Zthen, Zblock, ↓reduceIte]) | ((with_reducible apply zs_field_ref); (exact rfl); (exact rfl); (exact fld_of rfl)) | ((with_reducible apply zs_load_ref); (exact rfl); (exact rfl); (exact sh_of rfl); (exact rfl))))
        have e0 : B ++ msB c (n.msgs.take 0) = B := by simp [msB]
        rw [← e0] at hg
        rw [← e0]
        refine zr_loopK [2, 94, 95] (fun m e s => ∃ i o q f, m + i = n.msgs.length ∧ e = [(8, orow o (B ++ msB c (n.msgs.take i)).length q), (96, .v (.int .i64 (i : Nat)))] ∧ Zm.Sep st s [(o, f)] ∧ GRow o f 1 (B ++ msB c (n.msgs.take i)).length q (bytesD (B ++ msB c (n.msgs.take i))).flatten) n.msgs.length _ zq15 ⟨0, _, _, _, by omega, rfl, hS, hg⟩ zq17 ?_
        rintro m e s ⟨i, o, q, f, hm, rfl, hS, hg⟩
        (repeat (first | ((with_reducible apply zr_seq)) | ((with_reducible apply zr_region); (try simp only [List.append_eq, List.cons_append, List.nil_append])) | ((with_reducible apply zo_end)) | ((with_reducible apply zs_lss); (exact rfl); (exact rfl); (exact rfl))))
        (first | refine zr_cond rfl (fun h3 => ?_) (fun h3 => ?_) | refine zs_split rfl rfl (fun h3 => ?_) (fun h3 => ?_)) <;> have h3' := h3 <;> (try simp only [decide_eq_true_eq, decide_eq_false_iff_not, Bool.and_eq_true, Bool.or_eq_true, Bool.and_eq_false_iff, Bool.or_eq_false_iff, Bool.not_eq_true', Bool.not_eq_false', Bool.not_eq_true, Bool.not_eq_false, Int.not_le, Int.not_lt, Classical.not_not, Decidable.not_not, ne_eq, beq_iff_eq, bne_iff_ne] at h3')
        · obtain ⟨b, hb, hbt, _, hbg⟩ := eltM (l := n.msgs) (i := i) (by omega)
          have hmem := List.mem_of_getElem? hb
          have hmb : MB b := ht.s.mb b hmem
          have hmay : ∀ x ∈ n.msgs, mayL c x = true := fun x hx => by
            cases hl : n.leaf
            · exact ((hgf.inn hl).msg x hx).2
            · rw [(hgf.lf hl).msgs] at hx; simp at hx
          have hml := msB_bd hgf.ok (l := n.msgs.take i) (fun x hx => hmay x (List.mem_of_mem_take hx)) (by rw [List.length_take]; omega)
          have hbm := msgB_len ⟨hgf.ok, hmay b hmem⟩
          have hbb : (bytesD ((msgB c b).getD [])).length = ((msgB c b).getD []).length := bytesD_length _
          have hlo : mlong c ≤ 2005 := by obtain ⟨a1, a2, _⟩ := okC_t hgf.ok; unfold mlong; omega
          have hBL : (B ++ msB c (n.msgs.take i)).length = B.length + (msB c (n.msgs.take i)).length := List.length_append
          have hks := msB_snoc (c := c) hbt
          (repeat (first | ((with_reducible apply zr_seq)) | ((with_reducible apply zr_region); (try simp only [List.append_eq, List.cons_append, List.nil_append])) | ((with_reducible apply zo_end)) | ((with_reducible apply zo_endB)) | ((with_reducible apply zs_move); (exact rfl); (exact rfl)) | ((with_reducible apply zs_assign); (exact rfl); (exact rfl)) | ((with_reducible apply zs_extract); (exact rfl); (exact rfl); (exact rfl)) | ((with_reducible apply zs_add); (exact rfl); (exact rfl); (exact rfl); (first | (with_reducible assumption) | exact wrap_in64 (by omega) (by omega))) | ((with_reducible apply zr_block)) | ((with_reducible apply zr_skip')) | ((with_reducible apply zs_load_refAll); (exact rfl); (exact rfl); (exact sh_of rfl); (exact rfl)) | ((with_reducible apply zs_idxE); (exact rfl); (exact rfl); (exact rfl); (exact un_sl rfl); (exact ii_of rfl); (first | omega | (simp only [List.length_map, List.length_take, List.length_drop, List.length_append, List.length_cons, List.length_nil, List.length_replicate, rowR_length, intR_length, msgR_length, pairR_length]; omega) | decide); (first | omega | (simp only [List.length_map, List.length_take, List.length_drop, List.length_append, List.length_cons, List.length_nil, List.length_replicate, rowR_length, intR_length, msgR_length, pairR_length]; omega) | decide); (first | (with_reducible exact Int.toNat_natCast _) | (simp only [Int.reduceToNat]; exact rfl) | exact rfl); (assumption)) | ((with_reducible apply (zs_allocRef (t := 18))); (exact el_of rfl); (simp [oneD, Value.oneCell']); (exact sh_of rfl); (exact rfl); (intro _; exact rfl); (exact rfl); (simp [cellsD, oneD, Value.oneCell', msgD, nodeD, pairD, cfgD])) | ((with_reducible apply (zs_callQ nmsg_pf cl_15)); (exact rfl); (exact rfl); ((repeat (first | exact DLes.nil | (apply DLes.cons; first | exact DLe.refl _ | exact DLe.nilB | exact DLe.nilR | exact DLe.nilI | exact dle_mnone)))); (first | exact trivial | assumption | ((repeat' (with_reducible refine And.intro ?_ ?_)) <;> first | assumption | omega | exact trivial | (simp; done) | (simp; omega)))) | ((with_reducible apply (zs_sapp (i := 0))); (exact rfl); (exact rfl); (exact rfl); (exact un_sl rfl); (exact el_of rfl); (simp [oneD, Value.oneCell']); (assumption); (exact rfl); (assumption); ((try simp only [List.length_map, List.length_cons, List.length_nil, List.length_take, List.length_drop, List.length_append, rowR_length, intR_length, msgR_length, pairR_length]); omega); (intro o1 c1 f1 sS hS hg); (try simp only [List.set_cons_zero, List.set_cons_succ] at hS))))
          have hA1 : B ++ msB c (n.msgs.take (i + 1)) = B ++ msB c (n.msgs.take i) ++ (msgB c b).getD [] := by rw [hks, List.append_assoc]
          have hAl : (B ++ msB c (n.msgs.take (i + 1))).length = (B ++ msB c (n.msgs.take i)).length + (bytesD ((msgB c b).getD [])).length := by rw [hA1, List.length_append, bytesD_length]
          rw [← List.flatten_append, ← bytesD_append, ← hA1, ← hAl] at hg
          rw [← hAl]
          exact ⟨m - 1, _, by omega, ⟨i + 1, _, _, _, by omega, rfl, hS, hg⟩, zq17, zq17⟩
        · have hi : i = n.msgs.length := by omega
          subst hi
          rw [List.take_length] at hg ⊢
          have hbo : B ++ msB c n.msgs = bodyB c n := by rw [hB, hA]; rfl
          rw [hbo] at hg ⊢
          have hble := body_le hgf
          have hlb := longL_bd c
          obtain ⟨z, hz⟩ : ∃ z : Nat, z = (longL c).toNat - (bodyB c n).length := ⟨_, rfl⟩
          have hz2 : longL c - ((bodyB c n).length : Nat) = (z : Nat) := by omega
          (repeat (first | ((with_reducible apply zr_seq)) | ((with_reducible apply zr_region); (try simp only [List.append_eq, List.cons_append, List.nil_append])) | ((with_reducible apply zs_move); (exact rfl); (exact rfl)) | ((with_reducible apply zs_sub); (exact rfl); (exact rfl); (exact rfl); (first | (with_reducible assumption) | exact wrap_in64 (by omega) (by omega))) | (with_reducible refine zr_exit ?_; simp only [Zthen, Zblock, ↓reduceIte]) | ((with_reducible apply zs_load_refAll); (exact rfl); (exact rfl); (exact sh_of rfl); (exact rfl)) | ((with_reducible apply zs_len_orow); (exact rfl); (exact rfl); (first | exact GRow.nil0 zq27); (exact un_sl rfl)) | ((with_reducible apply (zs_callQ nlong_pf cl_13)); (exact rfl); (exact rfl); ((repeat (first | exact DLes.nil | (apply DLes.cons; first | exact DLe.refl _ | exact DLe.nilB | exact DLe.nilR | exact DLe.nilI | exact dle_mnone)))); (first | exact trivial | assumption | ((repeat' (with_reducible refine And.intro ?_ ?_)) <;> first | assumption | omega | exact trivial | (simp; done) | (simp; omega))))))
          rw [hz2]
          (try ((with_reducible apply zs_yes); exact rfl; exact rfl; (first | assumption | exact rfl))); refine zo_val rfl rfl (by decide) (zv_sappZ (e := 5) (i := 0) rfl zq24 zq23 zq26 (by exact un_int rfl) rfl hS rfl hg rfl (by omega) fun o1 c1 f1 s1 hS1 hg1 => ?_)
          have hcl : (codeB c n).length = (bodyB c n).length + z := by unfold codeB; rw [List.length_append, List.length_replicate, hz]
          have hcz : (bytesD (bodyB c n)).flatten ++ (List.replicate z [D.v (.int .u8 0)]).flatten = (bytesD (codeB c n)).flatten := by
            unfold codeB
            rw [bytesD_append, List.flatten_append, ← hz, zeros]
          rw [hcz, ← hcl] at hg1
          rw [← hcl]
          (repeat (first | ((with_reducible apply zo_end)) | ((with_reducible apply zs_assign); (exact rfl); (exact rfl)) | ((with_reducible apply zr_retZ); (exact rfl); (repeat (first | exact resD_nil _ _ _ | ((with_reducible apply resD_tmp); (exact rfl)) | ((with_reducible apply resD_cell_agg); (exact rfl); (exact sh_of rfl); (first | assumption | exact St.setH_self _ _ _ | exact Sep.at_ (i := 0) zq27 rfl | exact Sep.at_ (i := 1) zq27 rfl | exact Sep.at_ (i := 2) zq27 rfl | exact Sep.at_ (i := 3) zq27 rfl | exact Sep.at_ (i := 4) zq27 rfl | exact Sep.at_ (i := 5) zq27 rfl | exact Sep.at_ (i := 6) zq27 rfl); (exact rfl)) | ((with_reducible apply resD_cell); (exact rfl); (exact sh_of rfl); (first | assumption | exact St.setH_self _ _ _ | exact Sep.at_ (i := 0) zq27 rfl | exact Sep.at_ (i := 1) zq27 rfl | exact Sep.at_ (i := 2) zq27 rfl | exact Sep.at_ (i := 3) zq27 rfl | exact Sep.at_ (i := 4) zq27 rfl | exact Sep.at_ (i := 5) zq27 rfl | exact Sep.at_ (i := 6) zq27 rfl); (exact rfl)))); (simp only [resOf]))))
          exact KE.mk _ (Ext.refl _) (hK _ _ _ _ hS1 hg1)
theorem code_pf {c : CfgV} {n : NodeV} (h : NodeT n) : PureF Try.prog 12 [.agg (cfgD c), .agg (nodeD n)] (bOut (codeN c n)) :=
  PureF.ofOwn fun st K hK => ⟨_, code_own, c, n, rfl, h, fun e => by
    rw [e] at hK
    exact hK [] st _ (Sep.nil st) (fun r hr => by simp at hr) fun G hr u hu => (DLe.tup (.cons .nilB (.cons (.refl _) .nil))) G u hu, fun e _ o q f st' hS hg => by
    rw [e] at hK
    obtain ⟨e1, k1⟩ := OR.mk_ok (by decide) hg rfl (bytesD_one _)
    refine hK [⟨o, f, 1, q, bytesD (codeB c n)⟩] st' _ hS (fun r hr => ?_) fun G hr => ?_
    · simp only [List.mem_cons, List.not_mem_nil, or_false] at hr
      subst hr; assumption
    · have r1 := hr _ (.head _)
      unfold OR.own OR.row at r1
      simp only at r1
      rw [e1] at r1
      exact AtLe.tup (.cons r1 (.cons .same .nil))⟩
end Go.Proofs.ZtLe
namespace Go.Proofs.ZtLe
open Go.RowKit Go.Proofs Go.Proofs.Zm
set_option linter.unusedVariables false
set_option linter.unusedSimpArgs false
set_option maxHeartbeats 20000000
set_option maxRecDepth 100000
attribute [local irreducible] ZWp ZOps ZPure ZPure0 ZVal ZOp SoundF

/-! ### node.reader -/
abbrev RdV := Bs × Bool
def rdD (r : RdV) : List D := [.row (bytesD r.1) 1 0, .v (.bool r.2)]
def rtake (r : RdV) (n : Int) : Bs × RdV := if ((r.1.length : Nat) : Int) < n then ([], r.1, true) else (r.1.take n.toNat, r.1.drop n.toNat, r.2)
def rtext (r : RdV) (most : Int) : Bs × RdV :=
  ((unpadL (rtake r (most + 2)).1 most).getD [], (rtake r (most + 2)).2.1, (rtake r (most + 2)).2.2 || !(unpadL (rtake r (most + 2)).1 most).isSome)
theorem rtake_t {r : RdV} {n : Int} (h : ((r.1.length : Nat) : Int) < n) : rtake r n = ([], r.1, true) := by unfold rtake; exact if_pos h
theorem rtake_f {r : RdV} {n : Int} (h : ¬ ((r.1.length : Nat) : Int) < n) : rtake r n = (r.1.take n.toNat, r.1.drop n.toNat, r.2) := by unfold rtake; exact if_neg h
theorem rtake_len (r : RdV) (n : Int) : (rtake r n).1.length ≤ r.1.length ∧ (rtake r n).2.1.length ≤ r.1.length := by
  unfold rtake
  split
  · simp
  · simp only [List.length_take, List.length_drop]; omega
theorem rtext_len (r : RdV) (n : Int) : (rtext r n).1.length ≤ r.1.length ∧ (rtext r n).2.1.length ≤ r.1.length := by
  have h1 := rtake_len r (n + 2)
  have h2 := unpadL_len (l := (rtake r (n + 2)).1) (most := n)
  unfold rtext
  exact ⟨by simp only; omega, h1.2⟩
def rdSpec (F : RdV → Int → Bs × RdV) (B : Int) : ZSpec := fun args st K => ∃ (id : Nat) (r : RdV) (n : Int), args = [.ptr id 0, .v (.int .i64 n)] ∧ st.H id = some (rdD r) ∧ (0 ≤ n ∧ n ≤ B) ∧ r.1.length ≤ 2147483648 ∧
  ∀ d, DLe d (.row (bytesD (F r n).1) 1 0) → K d (st.setH id (some (rdD (F r n).2)))
theorem take_rd : SoundF Try.prog 58 (rdSpec rtake 100000) := by
  refine sound_ofA Try.func58 rfl Try.results58 ?_
  rintro w0 args st K ⟨id, r, n, rfl, hH, ⟨h0, h1⟩, h2, hK⟩
  rw [Try.ntmps58]; refine ⟨by simp, ?_⟩
  unfold rdD at hH
  cases h3 : decide (((r.1.length : Nat) : Int) < n)
  · rw [rtake_f (of_decide_eq_false h3)] at hK
    have h3' := of_decide_eq_false h3
    (repeat (first | ((with_reducible apply zr_seq)) | ((with_reducible apply zr_region); (try simp only [List.append_eq, List.cons_append, List.nil_append])) | ((with_reducible apply zo_end)) | ((with_reducible apply zs_move); (exact rfl); (exact rfl)) | ((with_reducible apply zs_assign); (exact rfl); (exact rfl)) | ((with_reducible apply zs_gtr); (exact rfl); (exact rfl); (exact rfl)) | ((with_reducible apply zs_lenB); (exact rfl); (exact rfl); (exact un_sl rfl)) | ((with_reducible apply zr_cond_f); (exact rfl); (first | assumption | exact rfl)) | ((with_reducible apply zr_skip')) | ((with_reducible apply zs_nilCheck_ptr); (exact rfl); (exact rfl)) | ((with_reducible apply zs_field_ptr); (exact rfl); (exact rfl); (exact fld_of rfl)) | ((with_reducible apply zs_load_ptr); (exact rfl); (exact rfl); (exact sh_of rfl); (first | assumption | exact St.setH_self _ _ _ | exact Sep.at_ (i := 0) zq27 rfl | exact Sep.at_ (i := 1) zq27 rfl | exact Sep.at_ (i := 2) zq27 rfl | exact Sep.at_ (i := 3) zq27 rfl | exact Sep.at_ (i := 4) zq27 rfl | exact Sep.at_ (i := 5) zq27 rfl | exact Sep.at_ (i := 6) zq27 rfl); (first | exact rfl | assumption)) | ((with_reducible apply zs_store); (exact rfl); (exact rfl); (exact sh_of rfl); (first | assumption | exact St.setH_self _ _ _ | exact Sep.at_ (i := 0) zq27 rfl | exact Sep.at_ (i := 1) zq27 rfl | exact Sep.at_ (i := 2) zq27 rfl | exact Sep.at_ (i := 3) zq27 rfl | exact Sep.at_ (i := 4) zq27 rfl | exact Sep.at_ (i := 5) zq27 rfl | exact Sep.at_ (i := 6) zq27 rfl); (exact rfl); (focus (simp [cellsD, oneD, Value.oneCell', msgD, nodeD, pairD, cfgD, rdD]; done)); (focus (simp [cellsD, msgD, nodeD, pairD, cfgD, rdD]; done)); (exact rfl); (try rw [St.setH_setH])) | ((with_reducible apply zs_cutBlo); (exact rfl); (exact rfl); (exact un_sl rfl); (exact ii_of rfl); (exact rfl); (first | omega | (simp only [List.length_map, List.length_take, List.length_drop, List.length_append, List.length_cons, List.length_nil, List.length_replicate, rowR_length, intR_length, msgR_length, pairR_length]; omega) | decide); (first | omega | (simp only [List.length_map, List.length_take, List.length_drop, List.length_append, List.length_cons, List.length_nil, List.length_replicate, rowR_length, intR_length, msgR_length, pairR_length]; omega) | decide); (first | (with_reducible exact Int.toNat_natCast _) | (simp only [Int.reduceToNat]; exact rfl) | exact rfl)) | ((with_reducible apply zs_cutBhi); (exact rfl); (exact rfl); (exact un_sl rfl); (exact ii_of rfl); (exact rfl); (first | omega | (simp only [List.length_map, List.length_take, List.length_drop, List.length_append, List.length_cons, List.length_nil, List.length_replicate, rowR_length, intR_length, msgR_length, pairR_length]; omega) | decide); (first | omega | (simp only [List.length_map, List.length_take, List.length_drop, List.length_append, List.length_cons, List.length_nil, List.length_replicate, rowR_length, intR_length, msgR_length, pairR_length]; omega) | decide); (first | (with_reducible exact Int.toNat_natCast _) | (simp only [Int.reduceToNat]; exact rfl) | exact rfl)) | ((with_reducible apply zr_retZ); (exact rfl); (repeat (first | exact resD_nil _ _ _ | ((with_reducible apply resD_tmp); (exact rfl)) | ((with_reducible apply resD_cell_agg); (exact rfl); (exact sh_of rfl); (first | assumption | exact St.setH_self _ _ _ | exact Sep.at_ (i := 0) zq27 rfl | exact Sep.at_ (i := 1) zq27 rfl | exact Sep.at_ (i := 2) zq27 rfl | exact Sep.at_ (i := 3) zq27 rfl | exact Sep.at_ (i := 4) zq27 rfl | exact Sep.at_ (i := 5) zq27 rfl | exact Sep.at_ (i := 6) zq27 rfl); (exact rfl)) | ((with_reducible apply resD_cell); (exact rfl); (exact sh_of rfl); (first | assumption | exact St.setH_self _ _ _ | exact Sep.at_ (i := 0) zq27 rfl | exact Sep.at_ (i := 1) zq27 rfl | exact Sep.at_ (i := 2) zq27 rfl | exact Sep.at_ (i := 3) zq27 rfl | exact Sep.at_ (i := 4) zq27 rfl | exact Sep.at_ (i := 5) zq27 rfl | exact Sep.at_ (i := 6) zq27 rfl); (exact rfl)))); (simp only [resOf]))))
    exact KE.mk _ (Ext.refl _) (hK _ (DLe.refl _))
  · rw [rtake_t (of_decide_eq_true h3)] at hK
    (repeat (first | ((with_reducible apply zr_seq)) | ((with_reducible apply zr_region); (try simp only [List.append_eq, List.cons_append, List.nil_append])) | ((with_reducible apply zo_end)) | ((with_reducible apply zs_move); (exact rfl); (exact rfl)) | ((with_reducible apply zs_assign); (exact rfl); (exact rfl)) | ((with_reducible apply zs_gtr); (exact rfl); (exact rfl); (exact rfl)) | ((with_reducible apply zs_lenB); (exact rfl); (exact rfl); (exact un_sl rfl)) | ((with_reducible apply zr_cond_t); (exact rfl); (first | assumption | exact rfl)) | ((with_reducible apply zs_nilCheck_ptr); (exact rfl); (exact rfl)) | ((with_reducible apply zs_field_ptr); (exact rfl); (exact rfl); (exact fld_of rfl)) | ((with_reducible apply zs_load_ptr); (exact rfl); (exact rfl); (exact sh_of rfl); (first | assumption | exact St.setH_self _ _ _ | exact Sep.at_ (i := 0) zq27 rfl | exact Sep.at_ (i := 1) zq27 rfl | exact Sep.at_ (i := 2) zq27 rfl | exact Sep.at_ (i := 3) zq27 rfl | exact Sep.at_ (i := 4) zq27 rfl | exact Sep.at_ (i := 5) zq27 rfl | exact Sep.at_ (i := 6) zq27 rfl); (first | exact rfl | assumption)) | ((with_reducible apply zs_store); (exact rfl); (exact rfl); (exact sh_of rfl); (first | assumption | exact St.setH_self _ _ _ | exact Sep.at_ (i := 0) zq27 rfl | exact Sep.at_ (i := 1) zq27 rfl | exact Sep.at_ (i := 2) zq27 rfl | exact Sep.at_ (i := 3) zq27 rfl | exact Sep.at_ (i := 4) zq27 rfl | exact Sep.at_ (i := 5) zq27 rfl | exact Sep.at_ (i := 6) zq27 rfl); (exact rfl); (focus (simp [cellsD, oneD, Value.oneCell', msgD, nodeD, pairD, cfgD, rdD]; done)); (focus (simp [cellsD, msgD, nodeD, pairD, cfgD, rdD]; done)); (exact rfl); (try rw [St.setH_setH])) | ((with_reducible apply zr_retZ); (exact rfl); (repeat (first | exact resD_nil _ _ _ | ((with_reducible apply resD_tmp); (exact rfl)) | ((with_reducible apply resD_cell_agg); (exact rfl); (exact sh_of rfl); (first | assumption | exact St.setH_self _ _ _ | exact Sep.at_ (i := 0) zq27 rfl | exact Sep.at_ (i := 1) zq27 rfl | exact Sep.at_ (i := 2) zq27 rfl | exact Sep.at_ (i := 3) zq27 rfl | exact Sep.at_ (i := 4) zq27 rfl | exact Sep.at_ (i := 5) zq27 rfl | exact Sep.at_ (i := 6) zq27 rfl); (exact rfl)) | ((with_reducible apply resD_cell); (exact rfl); (exact sh_of rfl); (first | assumption | exact St.setH_self _ _ _ | exact Sep.at_ (i := 0) zq27 rfl | exact Sep.at_ (i := 1) zq27 rfl | exact Sep.at_ (i := 2) zq27 rfl | exact Sep.at_ (i := 3) zq27 rfl | exact Sep.at_ (i := 4) zq27 rfl | exact Sep.at_ (i := 5) zq27 rfl | exact Sep.at_ (i := 6) zq27 rfl); (exact rfl)))); (simp only [resOf]))))
    exact KE.mk _ (Ext.refl _) (hK _ .nilB)
theorem text_rd : SoundF Try.prog 60 (rdSpec rtext 1000) := by
  refine sound_ofA Try.func60 rfl Try.results60 ?_
  rintro w0 args st K ⟨id, r, n, rfl, hH, ⟨h0, h1⟩, h2, hK⟩
  rw [Try.ntmps60]; refine ⟨by simp, ?_⟩
  (repeat (first | ((with_reducible apply zr_seq)) | ((with_reducible apply zr_region); (try simp only [List.append_eq, List.cons_append, List.nil_append])) | ((with_reducible apply zo_end)) | ((with_reducible apply zs_move); (exact rfl); (exact rfl)) | ((with_reducible apply zs_assign); (exact rfl); (exact rfl)) | ((with_reducible apply zs_add); (exact rfl); (exact rfl); (exact rfl); (first | (with_reducible assumption) | exact wrap_in64 (by omega) (by omega))) | ((with_reducible apply zs_call take_rd cl_58); (exact rfl); (exact rfl); ((try simp only [List.append_nil]); first | exact Ups.nilrow 1 (Ups.nilrow 1 (Ups.nilrow 1 (Ups.refl _))) | exact Ups.nilrow 1 (Ups.nilrow 1 (Ups.refl _)) | exact Ups.same (Ups.nilrow 1 (Ups.nilrow 1 (Ups.refl _))) | exact Ups.nilrow 1 (Ups.same (Ups.nilrow 1 (Ups.refl _))) | exact Ups.nilrow 1 (Ups.refl _) | exact Ups.same (Ups.nilrow 1 (Ups.refl _)) | exact Ups.same (Ups.same (Ups.nilrow 1 (Ups.refl _))) | exact Ups.refl _))))
  refine ⟨id, r, _, rfl, hH, ⟨by omega, by omega⟩, h2, fun d hd => ?_⟩
  unfold rtext at hK
  have hl := rtake_len r (n + 2)
  generalize rtake r (n + 2) = x at *
  obtain ⟨x, r2⟩ := x
  have hxl : x.length ≤ 140737488355328 := by simp only at hl; omega
  simp only at hK hd ⊢
  refine zo_as 11 (.row (bytesD x) 1 0) rfl hd ?_
  unfold rdD
  (repeat (first | ((with_reducible apply zr_seq)) | ((with_reducible apply zr_region); (try simp only [List.append_eq, List.cons_append, List.nil_append])) | ((with_reducible apply zo_end)) | ((with_reducible apply zs_move); (exact rfl); (exact rfl)) | ((with_reducible apply zs_assign); (exact rfl); (exact rfl)) | ((with_reducible apply zs_extract); (exact rfl); (exact rfl); (exact rfl)) | ((with_reducible apply zs_nilCheck_ptr); (exact rfl); (exact rfl)) | ((with_reducible apply zs_field_ptr); (exact rfl); (exact rfl); (exact fld_of rfl)) | ((with_reducible apply zs_load_ptr); (exact rfl); (exact rfl); (exact sh_of rfl); (first | assumption | exact St.setH_self _ _ _ | exact Sep.at_ (i := 0) zq27 rfl | exact Sep.at_ (i := 1) zq27 rfl | exact Sep.at_ (i := 2) zq27 rfl | exact Sep.at_ (i := 3) zq27 rfl | exact Sep.at_ (i := 4) zq27 rfl | exact Sep.at_ (i := 5) zq27 rfl | exact Sep.at_ (i := 6) zq27 rfl); (first | exact rfl | assumption)) | ((with_reducible apply zs_orB); (exact rfl); (exact rfl); (exact rfl); (intro hp_; first | exact congrArg some (gd_t hp_) | exact rfl)) | ((with_reducible apply zs_store); (exact rfl); (exact rfl); (exact sh_of rfl); (first | assumption | exact St.setH_self _ _ _ | exact Sep.at_ (i := 0) zq27 rfl | exact Sep.at_ (i := 1) zq27 rfl | exact Sep.at_ (i := 2) zq27 rfl | exact Sep.at_ (i := 3) zq27 rfl | exact Sep.at_ (i := 4) zq27 rfl | exact Sep.at_ (i := 5) zq27 rfl | exact Sep.at_ (i := 6) zq27 rfl); (exact rfl); (focus (simp [cellsD, oneD, Value.oneCell', msgD, nodeD, pairD, cfgD, rdD]; done)); (focus (simp [cellsD, msgD, nodeD, pairD, cfgD, rdD]; done)); (exact rfl); (try rw [St.setH_setH])) | ((with_reducible apply (zs_h_move [])); (exact rfl); (first | exact GC.t rfl rfl | exact GC.f rfl rfl | exact GC.gt rfl rfl | exact GC.gf rfl rfl); (exact rfl); (intro hc_; first | exact congrArg some (gd_t hc_) | exact congrArg some (gd_t (band_l hc_)) | exact congrArg some (gd_t (band_l (band_l hc_))) | exact rfl)) | ((with_reducible apply (zs_h_not [])); (exact rfl); (first | exact GC.t rfl rfl | exact GC.f rfl rfl | exact GC.gt rfl rfl | exact GC.gf rfl rfl); (exact rfl); (intro hc_; first | exact congrArg some (gd_t hc_) | exact congrArg some (gd_t (band_l hc_)) | exact congrArg some (gd_t (band_l (band_l hc_))) | exact rfl)) | ((with_reducible apply (zs_callQ unpad_pf cl_49)); (exact rfl); (exact rfl); ((repeat (first | exact DLes.nil | (apply DLes.cons; first | exact DLe.refl _ | exact DLe.nilB | exact DLe.nilR | exact DLe.nilI | exact dle_mnone)))); (first | exact trivial | assumption | ((repeat' (with_reducible refine And.intro ?_ ?_)) <;> first | assumption | omega | exact trivial | (simp; done) | (simp; omega)))) | ((with_reducible apply zr_retZ); (exact rfl); (repeat (first | exact resD_nil _ _ _ | ((with_reducible apply resD_tmp); (exact rfl)) | ((with_reducible apply resD_cell_agg); (exact rfl); (exact sh_of rfl); (first | assumption | exact St.setH_self _ _ _ | exact Sep.at_ (i := 0) zq27 rfl | exact Sep.at_ (i := 1) zq27 rfl | exact Sep.at_ (i := 2) zq27 rfl | exact Sep.at_ (i := 3) zq27 rfl | exact Sep.at_ (i := 4) zq27 rfl | exact Sep.at_ (i := 5) zq27 rfl | exact Sep.at_ (i := 6) zq27 rfl); (exact rfl)) | ((with_reducible apply resD_cell); (exact rfl); (exact sh_of rfl); (first | assumption | exact St.setH_self _ _ _ | exact Sep.at_ (i := 0) zq27 rfl | exact Sep.at_ (i := 1) zq27 rfl | exact Sep.at_ (i := 2) zq27 rfl | exact Sep.at_ (i := 3) zq27 rfl | exact Sep.at_ (i := 4) zq27 rfl | exact Sep.at_ (i := 5) zq27 rfl | exact Sep.at_ (i := 6) zq27 rfl); (exact rfl)))); (simp only [resOf]))))
  exact KE.mk _ (Ext.refl _) (hK _ (DLe.refl _))
def rdX (F : RdV → Int → Bs × RdV) (B : Int) : ZSpec := fun args st K => ∃ (id : Nat) (r : RdV) (n : Int), args = [.ptr id 0, .v (.int .i64 n)] ∧ st.H id = some (rdD r) ∧ (0 ≤ n ∧ n ≤ B) ∧ r.1.length ≤ 2147483648 ∧
  K (.row (bytesD (F r n).1) 1 0) (st.setH id (some (rdD (F r n).2)))
theorem rdX_of {F : RdV → Int → Bs × RdV} {B : Int} {f : FuncId} (h : SoundF Try.prog f (rdSpec F B)) : SoundF Try.prog f (rdX F B) :=
  SoundF.up h fun args st K ⟨id, r, n, h1, h2, h3, h4, hK⟩ => ⟨id, r, n, h1, h2, h3, h4, fun d hd => ⟨_, hd, hK⟩⟩
theorem take_x : SoundF Try.prog 58 (rdX rtake 100000) := rdX_of take_rd
theorem text_x : SoundF Try.prog 60 (rdX rtext 1000) := rdX_of text_rd
end Go.Proofs.ZtLe
