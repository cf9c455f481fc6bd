/- A part of the proof of NodeBack: walks of the functions that it reaches. No condition. -/
import Derived.Test.YtocpidlgcakldaaZtNoO
import Derived.Test.YtocpidlgcakldaaZmP2
import Derived.Test.YtocpidlgcakldaaZmAuto
import Derived.Test.YtocpidlgcakldaaZtP8
import Derived.Test.YtocpidlgcakldaaZtP4
namespace Go.Proofs.ZtLe
open Go.RowKit Go.Proofs Go.Proofs.Zm
set_option linter.unusedVariables false
set_option linter.unusedSimpArgs false
set_option maxHeartbeats 20000000
set_option maxRecDepth 100000
attribute [local irreducible] ZWp ZOps ZPure ZPure0 ZVal ZOp SoundF

/-! ### NodeBack -/
theorem InnerV.nodeT {c : CfgV} {N : Nat} {n : NodeV} (hc : SmallC c) (h : InnerV c N n) : NodeT n := by
  obtain ⟨h1, h2, h3, h4, h5, h6, h7, h8⟩ := h
  obtain ⟨a1, a2⟩ := hc.hf
  have hm : c.m ≤ 9 := by
    obtain ⟨b1, b2⟩ := hc.hm
    obtain ⟨b3, b4⟩ := hc.hc
    have := (mul_bd (show 0 ≤ c.f ∧ c.f ≤ 4 by omega) (show 0 ≤ c.c ∧ c.c ≤ 2 by omega)).2
    omega
  refine ⟨⟨by omega, by rw [h5]; simp, by rw [h6, kidsN_length]; omega, by omega, fun m hm => ?_⟩, fun k hk => by have := (h4 k hk).1; omega, by rw [h5]; simp⟩
  obtain ⟨_, v, hv, hs⟩ := h8 m hm
  exact hs.mb (by omega)
theorem SmallC.nodeC {c : CfgV} (hc : SmallC c) : NodeC c ∧ 0 ≤ c.l ∧ c.l ≤ 1000000 := by
  obtain ⟨h1, h2, h3, h4, h5, h6, h7, h8, h9⟩ := hc
  have hm := mul_bd (show 0 ≤ c.f ∧ c.f ≤ 4 by omega) (show 0 ≤ c.c ∧ c.c ≤ 2 by omega)
  exact ⟨⟨by omega, by omega, by omega, by omega⟩, by omega, by omega⟩
theorem nodeAny_ps {c : CfgV} {l : List Int} {tl : Nat} (h : SmallC c ∧ l.length ≤ 140737488355328) : PureS Try.prog 28 [.agg (cfgD c), .row (intR l) 1 tl] (fun d => ∃ n, d = .agg (nodeD n) ∧ NodeT n) := by
  obtain ⟨hc, hl⟩ := h
  obtain ⟨q1, q2⟩ := hc.nodeC
  rcases Nat.mod_two_eq_zero_or_one l.length with h0 | h1
  · exact nodeE_ps ⟨h0, hl, q1, q2⟩
  · exact PureS.imp (node_ps ⟨h1, hl, q1⟩) fun d ⟨n, e, hn⟩ => ⟨n, e, hn.nodeT hc⟩
theorem NodeT.nb {n : NodeV} (h : NodeT n) : NB n := ⟨Nat.le_trans h.s.keys (by decide), Nat.le_trans h.s.vals (by decide), Nat.le_trans h.s.kids (by decide), Nat.le_trans h.s.msgs (by decide)⟩
theorem GoodF.nodeT {c : CfgV} {n : NodeV} (h : GoodF c n) : NodeT n := by
  obtain ⟨h1, h2, h3, h4, h5⟩ := okC_t h.ok
  have hk : ∀ k ∈ n.keys, k.length ≤ 2147483648 := fun k hk => by have := h.key k hk; omega
  cases hl : n.leaf
  · obtain ⟨k1, kf, kl, kv, ml, kid, msg⟩ := h.inn hl
    exact ⟨⟨by omega, by rw [kv]; simp, by omega, by omega, fun m hm => by have := may_len (msg m hm).2; exact ⟨by omega, by omega⟩⟩, hk, by rw [kv]; simp⟩
  · obtain ⟨kl, vl, kk, km, vv⟩ := h.lf hl
    exact ⟨⟨by omega, by omega, by rw [kk]; simp, by rw [km]; simp, by rw [km]; simp⟩, hk, fun v hv => by have := vv v hv; omega⟩
theorem long_most {c : CfgV} (h : okC c = true) : 0 < longL c ∧ longL c ≤ 16 + max (c.l * (c.keyMax + c.valMax + 4)) (c.f * (c.keyMax + 6) + c.m * mlong c) := by
  obtain ⟨h1, h2, h3, h4, h5⟩ := okC_t h
  have hb := long_bd h
  rw [longL_t h]
  have e1 : leafLong c = c.l * (c.keyMax + c.valMax + 4) := by unfold leafLong; congr 1; omega
  have e2 : c.f * (c.keyMax + 6) = c.f * (c.keyMax + 2) + c.f * 4 := by rw [← Int.mul_add]; congr 1; omega
  have e3 : max (c.f - 1) 0 * (c.keyMax + 2) ≤ c.f * (c.keyMax + 2) := Int.mul_le_mul_of_nonneg_right (by omega) (by omega)
  have e4 : innerLong c = c.f * 4 + max (c.f - 1) 0 * (c.keyMax + 2) + c.m * mlong c := rfl
  omega
theorem nb_cond {c : CfgV} {n : NodeV} (hok : okC c = true) : ((codeN c n).isSome != goodN c n || (codeN c n).isSome && decide (((((codeN c n).getD []).length : Nat) : Int) ≠ longL c) || !(codeN c n).isSome && decide ((0 : Int) < ((((codeN c n).getD []).length : Nat) : Int))) = false := by
  have hiss := codeN_some c n
  rw [hok, Bool.true_and] at hiss
  cases hx : codeN c n with
  | none => rw [hx] at hiss; rw [← hiss]; rfl
  | some x =>
    rw [hx] at hiss
    obtain ⟨h0, rfl⟩ := codeN_t hx
    rw [← hiss]
    simp only [Option.getD_some, Option.isSome_some]
    rw [decide_eq_false (fun h => h (codeB_len (good_f h0)))]
    rfl
theorem nb_parse {c : CfgV} {n : NodeV} {X : Bs} (h : codeN c n = some X) : parseN c X = some n ∧ (X.length : Int) = longL c := by
  obtain ⟨h0, rfl⟩ := codeN_t h
  exact ⟨parse_code h0, codeB_len (good_f h0)⟩
theorem nb_back {c : CfgV} {z : NodeV} {b : Bs} (h : parseN c b = some z) : codeN c z = some b ∧ NodeT z := by
  have h1 := parse_t h
  exact ⟨h1, (good_f (codeN_t h1).1).nodeT⟩
attribute [local irreducible] codeN parseN okC longL goodN
def nbackSpec : ZSpec := fun args st K => ∃ (c : CfgV) (n : NodeV) (l : List Int) (tl : Nat) (b : Bs) (tb : Nat) (at_ : Int) (by_ : UInt8), args = [.agg (cfgD c), .agg (nodeD n), .row (intR l) 1 tl, .row (bytesD b) 1 tb, .v (.int .i64 at_), .v (.int .u8 (by_.toNat : Int))] ∧
  NodeQ n ∧ (l.length ≤ 140737488355328 ∧ b.length ≤ 140737488355328) ∧ K (.v (.bool true)) st
theorem nback_snd : SoundF Try.prog 6 nbackSpec := by
  refine sound_ofA Try.func6 rfl Try.results6 ?_
  rintro w0 args st K ⟨c, n, l, tl, b, tb, at_, by_, rfl, hnq, ⟨hl, hb⟩, hK⟩
  rw [Try.ntmps6]; refine ⟨by simp, ?_⟩
  refine zr_as 3 (.row (bytesD b) 1 0) rfl zq2 ?_
  have hS := Sep.nil st
  (repeat (first | ((with_reducible apply zr_seq)) | ((with_reducible apply zr_region); (try simp only [List.append_eq, List.cons_append, List.nil_append])) | ((with_reducible apply zo_end)) | ((with_reducible apply zs_assign); (exact rfl); (exact rfl)) | ((with_reducible apply zs_load_refAll); (exact rfl); (exact rfl); (exact sh_of rfl); (exact rfl)) | ((with_reducible apply (zs_boxRef (t := 7))); (exact rfl); (exact rfl)) | ((with_reducible apply (zs_sbox (t := 6))); (exact rfl); (exact rfl); (focus (simp [cellsD, oneD, Value.oneCell', msgD, nodeD, pairD, cfgD, rdD]; done)); (assumption); (intro a6 sS hS))))
  (try ((with_reducible apply zs_yes); exact rfl; exact rfl; (first | assumption | exact rfl))); refine zo_callU (few_ps hnq) Try.func23 zq36 rfl rfl rfl rfl (by decide) rfl rfl zq3 ?_
  refine ⟨rfl, fun d hd => ?_⟩
  obtain ⟨x, rfl, hx⟩ := hd
  cases x
  · have g1 : (!false) = true := rfl
    (repeat (first | ((with_reducible apply zr_seq)) | ((with_reducible apply zr_region); (try simp only [List.append_eq, List.cons_append, List.nil_append])) | ((with_reducible apply zo_end)) | ((with_reducible apply zs_noU); (exact rfl); (exact rfl); (first | assumption | exact rfl | (simp only [Bool.not_false, Bool.not_true]; assumption)); (exact rfl)) | ((with_reducible apply zs_move); (exact rfl); (exact rfl)) | ((with_reducible apply zs_assign); (exact rfl); (exact rfl)) | ((with_reducible apply zs_not); (exact rfl); (exact rfl)) | ((with_reducible apply zs_pick_t); (exact rfl); (exact rfl); (first | assumption | exact rfl); (exact rfl)) | ((with_reducible apply zr_cond_t); (exact rfl); (first | assumption | exact rfl)) | ((with_reducible apply (zs_callQ awake18_pf cl_14)); (exact rfl); (exact rfl); ((repeat (first | exact DLes.nil | (apply DLes.cons; first | exact DLe.refl _ | exact DLe.nilB | exact DLe.nilR | exact DLe.nilI | exact dle_mnone | exact dle_nnone | exact dle_awC | exact dle_awM | exact dle_awS | exact dle_awL)))); (first | exact trivial | assumption | ((repeat' (with_reducible refine And.intro ?_ ?_)) <;> first | assumption | omega | exact trivial | (simp; done) | (simp; omega)))) | ((with_reducible apply zr_retZ); (exact rfl); (repeat (first | exact resD_nil _ _ _ | ((with_reducible apply resD_tmp); (exact rfl)) | ((with_reducible apply resD_cell_agg); (exact rfl); (exact sh_of rfl); (first | assumption | exact St.setH_self _ _ _ | exact Sep.at_ (i := 0) zq35 rfl | exact Sep.at_ (i := 1) zq35 rfl | exact Sep.at_ (i := 2) zq35 rfl | exact Sep.at_ (i := 3) zq35 rfl | exact Sep.at_ (i := 4) zq35 rfl | exact Sep.at_ (i := 5) zq35 rfl | exact Sep.at_ (i := 6) zq35 rfl); (exact rfl)) | ((with_reducible apply resD_cell); (exact rfl); (exact sh_of rfl); (first | assumption | exact St.setH_self _ _ _ | exact Sep.at_ (i := 0) zq35 rfl | exact Sep.at_ (i := 1) zq35 rfl | exact Sep.at_ (i := 2) zq35 rfl | exact Sep.at_ (i := 3) zq35 rfl | exact Sep.at_ (i := 4) zq35 rfl | exact Sep.at_ (i := 5) zq35 rfl | exact Sep.at_ (i := 6) zq35 rfl); (exact rfl)))); (simp only [resOf]))))
    exact KE.mk _ hS.ext hK
  · have g1 : (!true) = false := rfl
    have hfew := hx rfl
    (repeat (first | ((with_reducible apply zo_end)) | ((with_reducible apply zs_yes); (exact rfl); (exact rfl); (first | assumption | exact rfl)) | ((with_reducible apply zs_move); (exact rfl); (exact rfl)) | ((with_reducible apply zs_gtr); (exact rfl); (exact rfl); (exact rfl)) | ((with_reducible apply zs_not); (exact rfl); (exact rfl)) | ((with_reducible apply zs_pick_f); (exact rfl); (exact rfl); (first | assumption | exact rfl); (exact rfl)) | ((with_reducible apply zs_lenB); (exact rfl); (exact rfl); (exact un_sl rfl)) | ((with_reducible apply zs_orB); (exact rfl); (exact rfl); (exact rfl); (intro hp_; first | exact congrArg some (gd_t hp_) | exact rfl)) | ((with_reducible apply (zs_h_move [])); (exact rfl); (first | exact GC.t rfl rfl | exact GC.f rfl rfl | exact GC.gt rfl rfl | exact GC.gf rfl rfl); (exact rfl); (intro hc_; first | exact congrArg some (gd_t hc_) | exact congrArg some (gd_t (band_l hc_)) | exact congrArg some (gd_t (band_l (band_l hc_))) | exact rfl)) | ((with_reducible apply (zs_h_gtr [])); (exact rfl); (first | exact GC.t rfl rfl | exact GC.f rfl rfl | exact GC.gt rfl rfl | exact GC.gf rfl rfl); (exact rfl); (intro hc_; first | exact congrArg some (gd_t hc_) | exact congrArg some (gd_t (band_l hc_)) | exact congrArg some (gd_t (band_l (band_l hc_))) | exact rfl); (intro hc_; first | exact congrArg some (gd_t hc_) | exact congrArg some (gd_t (band_l hc_)) | exact congrArg some (gd_t (band_l (band_l hc_))) | exact rfl)) | ((with_reducible apply (zs_h_len [])); (exact rfl); (first | exact GC.t rfl rfl | exact GC.f rfl rfl | exact GC.gt rfl rfl | exact GC.gf rfl rfl); (exact rfl); (exact un_sl rfl); (intro hc_; first | exact congrArg some (gd_t hc_) | exact congrArg some (gd_t (band_l hc_)) | exact congrArg some (gd_t (band_l (band_l hc_))) | exact rfl))))
    (first | refine zr_cond rfl (fun h1 => ?_) (fun h1 => ?_) | refine zs_split rfl rfl (fun h1 => ?_) (fun h1 => ?_)) <;> have h1' := h1 <;> (try simp only [decide_eq_true_eq, decide_eq_false_iff_not, Bool.and_eq_true, Bool.or_eq_true, Bool.and_eq_false_iff, Bool.or_eq_false_iff, Bool.not_eq_true', Bool.not_eq_false', Bool.not_eq_true, Bool.not_eq_false, Int.not_le, Int.not_lt, Classical.not_not, Decidable.not_not, ne_eq, beq_iff_eq, bne_iff_ne] at h1')
    · (repeat (first | ((with_reducible apply zr_seq)) | ((with_reducible apply zr_region); (try simp only [List.append_eq, List.cons_append, List.nil_append])) | ((with_reducible apply zo_end)) | ((with_reducible apply zs_assign); (exact rfl); (exact rfl)) | ((with_reducible apply (zs_callQ awake18_pf cl_14)); (exact rfl); (exact rfl); ((repeat (first | exact DLes.nil | (apply DLes.cons; first | exact DLe.refl _ | exact DLe.nilB | exact DLe.nilR | exact DLe.nilI | exact dle_mnone | exact dle_nnone | exact dle_awC | exact dle_awM | exact dle_awS | exact dle_awL)))); (first | exact trivial | assumption | ((repeat' (with_reducible refine And.intro ?_ ?_)) <;> first | assumption | omega | exact trivial | (simp; done) | (simp; omega)))) | ((with_reducible apply zr_retZ); (exact rfl); (repeat (first | exact resD_nil _ _ _ | ((with_reducible apply resD_tmp); (exact rfl)) | ((with_reducible apply resD_cell_agg); (exact rfl); (exact sh_of rfl); (first | assumption | exact St.setH_self _ _ _ | exact Sep.at_ (i := 0) zq35 rfl | exact Sep.at_ (i := 1) zq35 rfl | exact Sep.at_ (i := 2) zq35 rfl | exact Sep.at_ (i := 3) zq35 rfl | exact Sep.at_ (i := 4) zq35 rfl | exact Sep.at_ (i := 5) zq35 rfl | exact Sep.at_ (i := 6) zq35 rfl); (exact rfl)) | ((with_reducible apply resD_cell); (exact rfl); (exact sh_of rfl); (first | assumption | exact St.setH_self _ _ _ | exact Sep.at_ (i := 0) zq35 rfl | exact Sep.at_ (i := 1) zq35 rfl | exact Sep.at_ (i := 2) zq35 rfl | exact Sep.at_ (i := 3) zq35 rfl | exact Sep.at_ (i := 4) zq35 rfl | exact Sep.at_ (i := 5) zq35 rfl | exact Sep.at_ (i := 6) zq35 rfl); (exact rfl)))); (simp only [resOf]))))
      exact KE.mk _ hS.ext hK
    · (repeat (first | ((with_reducible apply zr_seq)) | ((with_reducible apply zr_region); (try simp only [List.append_eq, List.cons_append, List.nil_append])) | ((with_reducible apply zr_skip')) | ((with_reducible apply zs_load_ptrA); (exact rfl); (exact rfl); (exact sh_of rfl); (first | assumption | exact St.setH_self _ _ _ | exact Sep.at_ (i := 0) zq35 rfl | exact Sep.at_ (i := 1) zq35 rfl | exact Sep.at_ (i := 2) zq35 rfl | exact Sep.at_ (i := 3) zq35 rfl | exact Sep.at_ (i := 4) zq35 rfl | exact Sep.at_ (i := 5) zq35 rfl | exact Sep.at_ (i := 6) zq35 rfl); (first | exact Nat.le_of_ble_eq_true rfl | exact (by decide) | (focus (simp [cellsD]; done))); (first | (simp only [cells_orow, cD_int, cD_bool, cD_float, cD_nil, cD_ptr0, cD_str, cD_row, cD_mrow, cD_ptr, cD_ref, cD_fn, cD_agg, List.take_zero, List.take_succ_cons, List.take_nil, List.drop_succ_cons, List.drop_zero, List.drop_nil, List.nil_append, List.cons_append, List.append_nil, Nat.zero_add, Nat.reduceAdd]; exact rfl) | exact rfl))))
      (try ((with_reducible apply zs_yes); exact rfl; exact rfl; (first | assumption | exact rfl))); refine zo_callU (small_ps (c := c) trivial) Try.func21 zq36 rfl rfl rfl rfl (by decide) rfl rfl zq3 ?_
      refine ⟨rfl, fun d hd => ?_⟩
      obtain ⟨c', rfl, hsm⟩ := hd
      have hok := small_ok hsm
      have hm := long_most hok
      obtain ⟨k1, k2⟩ := hsm.hkey
      obtain ⟨v1, v2⟩ := hsm.hval
      obtain ⟨f1, f2⟩ := hsm.hf
      obtain ⟨q1, q2⟩ := hsm.nodeC
      obtain ⟨m1, m2⟩ := q1.m
      have w1 := mul_bd q2 (show 0 ≤ c'.keyMax + c'.valMax + 4 ∧ c'.keyMax + c'.valMax + 4 ≤ 100 by omega)
      have w2 := mul_bd (show 0 ≤ c'.f ∧ c'.f ≤ 4 by omega) (show 0 ≤ c'.keyMax + 6 ∧ c'.keyMax + 6 ≤ 100 by omega)
      have w3 := mul_bd (show 0 ≤ c'.m ∧ c'.m ≤ 1000000 by omega) (show 0 ≤ mlong c' ∧ mlong c' ≤ 100 by unfold mlong; omega)
      have hlb := longL_bd c'
      have hnt := hfew.nodeT
      (repeat (first | ((with_reducible apply (zs_sstore (i := 0))); (exact rfl); (exact rfl); (exact sh_of rfl); (assumption); (exact rfl); (first | exact rfl | (simp [cells_orow])); ((try rw [cells_orow]); (repeat (first | exact one_nil | (apply one_cons; (first | exact rfl | exact one_orow _ _ _))))); (first | exact Nat.le_of_ble_eq_true rfl | omega | (focus (simp [cellsD, msgD, nodeD, pairD, cfgD, rdD]; done))); (first | (simp only [cells_orow, cD_int, cD_bool, cD_float, cD_nil, cD_ptr0, cD_str, cD_row, cD_mrow, cD_ptr, cD_ref, cD_fn, cD_agg, List.take_zero, List.take_succ_cons, List.take_nil, List.drop_succ_cons, List.drop_zero, List.drop_nil, List.nil_append, List.cons_append, List.append_nil, Nat.zero_add, Nat.reduceAdd]; exact rfl) | exact rfl); (intro sS hS); (try simp only [List.set_cons_zero, List.set_cons_succ] at hS)) | ((with_reducible apply zr_seq)) | ((with_reducible apply zr_region); (try simp only [List.append_eq, List.cons_append, List.nil_append])) | ((with_reducible apply zo_end)) | ((with_reducible apply zs_assign); (exact rfl); (exact rfl)) | ((with_reducible apply zs_load_refAll); (exact rfl); (exact rfl); (exact sh_of rfl); (exact rfl)) | ((with_reducible apply zs_load_ptrA); (exact rfl); (exact rfl); (exact sh_of rfl); (first | assumption | exact St.setH_self _ _ _ | exact Sep.at_ (i := 0) zq35 rfl | exact Sep.at_ (i := 1) zq35 rfl | exact Sep.at_ (i := 2) zq35 rfl | exact Sep.at_ (i := 3) zq35 rfl | exact Sep.at_ (i := 4) zq35 rfl | exact Sep.at_ (i := 5) zq35 rfl | exact Sep.at_ (i := 6) zq35 rfl); (first | exact Nat.le_of_ble_eq_true rfl | exact (by decide) | (focus (simp [cellsD]; done))); (first | (simp only [cells_orow, cD_int, cD_bool, cD_float, cD_nil, cD_ptr0, cD_str, cD_row, cD_mrow, cD_ptr, cD_ref, cD_fn, cD_agg, List.take_zero, List.take_succ_cons, List.take_nil, List.drop_succ_cons, List.drop_zero, List.drop_nil, List.nil_append, List.cons_append, List.append_nil, Nat.zero_add, Nat.reduceAdd]; exact rfl) | exact rfl)) | ((with_reducible apply (zs_callQ nlong_pf cl_13)); (exact rfl); (exact rfl); ((repeat (first | exact DLes.nil | (apply DLes.cons; first | exact DLe.refl _ | exact DLe.nilB | exact DLe.nilR | exact DLe.nilI | exact dle_mnone | exact dle_nnone | exact dle_awC | exact dle_awM | exact dle_awS | exact dle_awL)))); (first | exact trivial | assumption | ((repeat' (with_reducible refine And.intro ?_ ?_)) <;> first | assumption | omega | exact trivial | (simp; done) | (simp; omega)))) | ((with_reducible apply (zs_salloc (t := 13))); (exact rfl); (exact el_of rfl); (simp [oneD, Value.oneCell']); (assumption); (intro a13 sS hS))))
      replace hS : Zm.Sep st sS [(some a13, nodeD n), (some a6, cfgD c')] := hS
      refine zc_begin (m := 24) ([(a6, cfgD c')]) [] zq36 rfl ?_
      refine zc_take0 (i := 0) rfl zq36 zq36 zq36 zq36 zq26 rfl rfl zq18 ?_
      refine zc_take (i := 1) rfl zq36 zq36 zq36 zq36 zq36 zq36 zq26 rfl rfl (zpb_load rfl zq33 rfl (.head _) rfl zq29) ?_
      refine zc_take0 (i := 2) rfl zq36 zq36 zq36 zq36 zq26 rfl rfl zq18 ?_
      refine zc_take (i := 3) rfl zq36 zq36 zq36 zq36 zq36 zq36 zq26 rfl rfl (zpb_load rfl zq33 rfl (.head _) rfl zq29) ?_
      refine zc_take0 (i := 4) rfl zq36 zq36 zq36 zq36 zq26 rfl rfl zq18 ?_
      refine zc_take (i := 5) rfl zq36 zq36 zq36 zq36 zq36 zq36 zq26 rfl rfl (zpb_load rfl zq33 rfl (.head _) rfl zq29) ?_
      refine zc_take0 (i := 6) rfl zq36 zq36 zq36 zq36 zq26 rfl rfl (ZPure0.pure (zp_add rfl rfl rfl zq27)) ?_
      refine zc_take0 (i := 7) rfl zq36 zq36 zq36 zq36 zq26 rfl rfl (ZPure0.pure (zp_add rfl rfl rfl zq27)) ?_
      refine zc_take0 (i := 8) rfl zq36 zq36 zq36 zq36 zq26 rfl rfl (ZPure0.pure (zp_mul rfl rfl rfl zq27)) ?_
      refine zc_take0 (i := 9) rfl zq36 zq36 zq36 zq36 zq26 rfl rfl zq18 ?_
      refine zc_take (i := 10) rfl zq36 zq36 zq36 zq36 zq36 zq36 zq26 rfl rfl (zpb_load rfl zq33 rfl (.head _) rfl zq29) ?_
      refine zc_take0 (i := 11) rfl zq36 zq36 zq36 zq36 zq26 rfl rfl zq18 ?_
      refine zc_take (i := 12) rfl zq36 zq36 zq36 zq36 zq36 zq36 zq26 rfl rfl (zpb_load rfl zq33 rfl (.head _) rfl zq29) ?_
      refine zc_take0 (i := 13) rfl zq36 zq36 zq36 zq36 zq26 rfl rfl (ZPure0.pure (zp_add rfl rfl rfl zq27)) ?_
      refine zc_take0 (i := 14) rfl zq36 zq36 zq36 zq36 zq26 rfl rfl (ZPure0.pure (zp_mul rfl rfl rfl zq27)) ?_
      refine zc_take0 (i := 15) rfl zq36 zq36 zq36 zq36 zq26 rfl rfl zq18 ?_
      refine zc_take (i := 16) rfl zq36 zq36 zq36 zq36 zq36 zq36 zq26 rfl rfl (zpb_load rfl zq33 rfl (.head _) rfl zq29) ?_
      refine zc_take (i := 17) rfl zq36 zq36 zq36 zq36 zq36 zq36 zq26 rfl rfl (zpb_load_agg rfl zq33 rfl (.head _) rfl rfl (by simp [exactD, exact_orow, msgD, nodeD, pairD, cfgD, rdD])) ?_
      refine zc_one (i := 18) (fun _ => by first | assumption | (repeat (first | exact BOwn.nil _ | refine BOwn.cons zq5 ?_))) zq36 rfl zq26 (zop_callQ rmlong_pf cl_24 rfl rfl (by decide) rfl rfl (by (repeat (first | exact DLes.nil | (apply DLes.cons; first | exact DLe.refl _ | exact DLe.nilB | exact DLe.nilR | exact DLe.nilI | exact dle_mnone | exact dle_nnone | exact dle_awC | exact dle_awM | exact dle_awS | exact dle_awL)))) zq13 ?_)
      refine zc_take0 (i := 19) rfl zq36 zq36 zq36 zq36 zq26 rfl rfl (ZPure0.pure (zp_mul rfl rfl rfl zq27)) ?_
      refine zc_take0 (i := 20) rfl zq36 zq36 zq36 zq36 zq26 rfl rfl (ZPure0.pure (zp_add rfl rfl rfl zq27)) ?_
      refine zc_take0 (i := 21) rfl zq36 zq36 zq36 zq36 zq26 rfl rfl (ZPure0.pure (zp_max rfl rfl rfl (by first | (with_reducible assumption) | exact rfl))) ?_
      refine zc_take0 (i := 22) rfl zq36 zq36 zq36 zq36 zq26 rfl rfl (ZPure0.pure (zp_add rfl rfl rfl zq27)) ?_
      refine zc_take0 (i := 23) rfl zq36 zq36 zq36 zq36 zq26 rfl rfl (ZPure0.pure (zp_assign rfl rfl)) ?_
      refine zc_end (fun _ => by first | assumption | (repeat (first | exact BOwn.nil _ | refine BOwn.cons zq5 ?_))) zq36 ?_
      (repeat (first | ((with_reducible apply zr_seq)) | ((with_reducible apply zr_region); (try simp only [List.append_eq, List.cons_append, List.nil_append])) | ((with_reducible apply zo_end)) | ((with_reducible apply zs_assign); (exact rfl); (exact rfl)) | ((with_reducible apply zr_block))))
      generalize (16 + max (c'.l * (c'.keyMax + c'.valMax + 4)) (c'.f * (c'.keyMax + 6) + c'.m * mlong c') : Int) = Mst at hm ⊢
      refine zr_loopK [2, 4, 5, 6, 13, 14, 15] (fun q e s => ∃ (i : Nat) (n : NodeV) (b : Bs), q + i = 2 ∧ e = [(3, .row (bytesD b) 1 0), (16, .v (.int .i64 (i : Nat)))] ∧ Zm.Sep st s [(some a13, nodeD n), (some a6, cfgD c')] ∧ NodeT n ∧ b.length ≤ 2147483648) 2 _ zq19 ⟨0, n, b, by omega, rfl, hS, hnt, by omega⟩ zq21 ?_
      clear hS hnt hfew hx hnq hb h1 h1'
      rintro q e s ⟨i, n, b, hq, rfl, hS, hnt, hbl⟩
      (repeat (first | ((with_reducible apply zr_seq)) | ((with_reducible apply zr_region); (try simp only [List.append_eq, List.cons_append, List.nil_append])) | ((with_reducible apply zo_end)) | ((with_reducible apply zs_move); (exact rfl); (exact rfl)) | ((with_reducible apply zs_lss); (exact rfl); (exact rfl); (exact rfl))))
      (first | refine zr_cond rfl (fun h2 => ?_) (fun h2 => ?_) | refine zs_split rfl rfl (fun h2 => ?_) (fun h2 => ?_)) <;> have h2' := h2 <;> (try simp only [decide_eq_true_eq, decide_eq_false_iff_not, Bool.and_eq_true, Bool.or_eq_true, Bool.and_eq_false_iff, Bool.or_eq_false_iff, Bool.not_eq_true', Bool.not_eq_false', Bool.not_eq_true, Bool.not_eq_false, Int.not_le, Int.not_lt, Classical.not_not, Decidable.not_not, ne_eq, beq_iff_eq, bne_iff_ne] at h2')
      · have hnh : okC c' = true ∧ NodeS n := ⟨hok, hnt.s⟩
        have hcond := nb_cond (n := n) hok
        (repeat (first | ((with_reducible apply zr_seq)) | ((with_reducible apply zr_region); (try simp only [List.append_eq, List.cons_append, List.nil_append])) | ((with_reducible apply zo_end)) | ((with_reducible apply zs_move); (exact rfl); (exact rfl)) | ((with_reducible apply zs_assign); (exact rfl); (exact rfl)) | ((with_reducible apply zs_extract); (exact rfl); (exact rfl); (exact rfl)) | ((with_reducible apply zr_cond_f); (exact rfl); (first | assumption | exact rfl)) | ((with_reducible apply zr_block)) | ((with_reducible apply zr_skip')) | ((with_reducible apply zs_bne); (exact rfl); (exact rfl); (exact rfl); (exact Try.underlying4)) | ((with_reducible apply zs_orB); (exact rfl); (exact rfl); (exact rfl); (intro hp_; first | exact congrArg some (gd_t hp_) | exact rfl)) | ((with_reducible apply zs_load_ptrA); (exact rfl); (exact rfl); (exact sh_of rfl); (first | assumption | exact St.setH_self _ _ _ | exact Sep.at_ (i := 0) zq35 rfl | exact Sep.at_ (i := 1) zq35 rfl | exact Sep.at_ (i := 2) zq35 rfl | exact Sep.at_ (i := 3) zq35 rfl | exact Sep.at_ (i := 4) zq35 rfl | exact Sep.at_ (i := 5) zq35 rfl | exact Sep.at_ (i := 6) zq35 rfl); (first | exact Nat.le_of_ble_eq_true rfl | exact (by decide) | (focus (simp [cellsD]; done))); (first | (simp only [cells_orow, cD_int, cD_bool, cD_float, cD_nil, cD_ptr0, cD_str, cD_row, cD_mrow, cD_ptr, cD_ref, cD_fn, cD_agg, List.take_zero, List.take_succ_cons, List.take_nil, List.drop_succ_cons, List.drop_zero, List.drop_nil, List.nil_append, List.cons_append, List.append_nil, Nat.zero_add, Nat.reduceAdd]; exact rfl) | exact rfl)) | ((with_reducible apply (zs_h_move [])); (exact rfl); (first | exact GC.t rfl rfl | exact GC.f rfl rfl | exact GC.gt rfl rfl | exact GC.gf rfl rfl); (exact rfl); (intro hc_; first | exact congrArg some (gd_t hc_) | exact congrArg some (gd_t (band_l hc_)) | exact congrArg some (gd_t (band_l (band_l hc_))) | exact rfl)) | ((with_reducible apply (zs_h_not [])); (exact rfl); (first | exact GC.t rfl rfl | exact GC.f rfl rfl | exact GC.gt rfl rfl | exact GC.gf rfl rfl); (exact rfl); (intro hc_; first | exact congrArg some (gd_t hc_) | exact congrArg some (gd_t (band_l hc_)) | exact congrArg some (gd_t (band_l (band_l hc_))) | exact rfl)) | ((with_reducible apply (zs_h_gtr [])); (exact rfl); (first | exact GC.t rfl rfl | exact GC.f rfl rfl | exact GC.gt rfl rfl | exact GC.gf rfl rfl); (exact rfl); (intro hc_; first | exact congrArg some (gd_t hc_) | exact congrArg some (gd_t (band_l hc_)) | exact congrArg some (gd_t (band_l (band_l hc_))) | exact rfl); (intro hc_; first | exact congrArg some (gd_t hc_) | exact congrArg some (gd_t (band_l hc_)) | exact congrArg some (gd_t (band_l (band_l hc_))) | exact rfl)) | ((with_reducible apply (zs_h_neq [])); (exact rfl); (first | exact GC.t rfl rfl | exact GC.f rfl rfl | exact GC.gt rfl rfl | exact GC.gf rfl rfl); (exact rfl); (intro hc_; first | exact congrArg some (gd_t hc_) | exact congrArg some (gd_t (band_l hc_)) | exact congrArg some (gd_t (band_l (band_l hc_))) | exact rfl); (intro hc_; first | exact congrArg some (gd_t hc_) | exact congrArg some (gd_t (band_l hc_)) | exact congrArg some (gd_t (band_l (band_l hc_))) | exact rfl)) | ((with_reducible apply (zs_h_and [])); (exact rfl); (first | exact GC.t rfl rfl | exact GC.f rfl rfl | exact GC.gt rfl rfl | exact GC.gf rfl rfl); (exact rfl); (intro hc_; first | exact congrArg some (gd_t hc_) | exact congrArg some (gd_t (band_l hc_)) | exact congrArg some (gd_t (band_l (band_l hc_))) | exact rfl); (intro hc_ hp_; first | exact congrArg some (gd_t (band hc_ hp_)) | exact congrArg some (gd_t hp_) | exact congrArg some (gd_t hc_) | exact congrArg some (gd_t (band_l hc_)) | exact congrArg some (gd_t (band_l (band_l hc_))) | exact rfl); (intro hc_; first | exact congrArg some (gd_t hc_) | exact congrArg some (gd_t (band_l hc_)) | exact congrArg some (gd_t (band_l (band_l hc_))) | exact rfl)) | ((with_reducible apply (zs_h_lenB [])); (exact rfl); (first | exact GC.t rfl rfl | exact GC.f rfl rfl | exact GC.gt rfl rfl | exact GC.gf rfl rfl); (exact rfl); (exact un_sl rfl); (intro hc_; first | exact congrArg some (gd_t hc_) | exact congrArg some (gd_t (band_l hc_)) | exact congrArg some (gd_t (band_l (band_l hc_))) | exact rfl)) | ((with_reducible apply (zs_callQ code_pf cl_12)); (exact rfl); (exact rfl); ((repeat (first | exact DLes.nil | (apply DLes.cons; first | exact DLe.refl _ | exact DLe.nilB | exact DLe.nilR | exact DLe.nilI | exact dle_mnone | exact dle_nnone | exact dle_awC | exact dle_awM | exact dle_awS | exact dle_awL)))); (first | exact trivial | assumption | ((repeat' (with_reducible refine And.intro ?_ ?_)) <;> first | assumption | omega | exact trivial | (simp; done) | (simp; omega)))) | ((with_reducible apply (zs_callQ rgood_pf cl_25)); (exact rfl); (exact rfl); ((repeat (first | exact DLes.nil | (apply DLes.cons; first | exact DLe.refl _ | exact DLe.nilB | exact DLe.nilR | exact DLe.nilI | exact dle_mnone | exact dle_nnone | exact dle_awC | exact dle_awM | exact dle_awS | exact dle_awL)))); (first | exact trivial | assumption | ((repeat' (with_reducible refine And.intro ?_ ?_)) <;> first | assumption | omega | exact trivial | (simp; done) | (simp; omega))))))
        rw [hcond]
        skip
        refine zr_cutK [2, 4, 5, 6, 13, 14, 15, 16] (fun e s => ∃ b : Bs, e = [(3, .row (bytesD b) 1 0)] ∧ Zm.Sep st s [(some a13, nodeD n), (some a6, cfgD c')] ∧ b.length ≤ 2147483648) zq19 ?_ ?_
        · cases hcs : (codeN c' n).isSome
          · (repeat (first | ((with_reducible apply zr_cond_f); (exact rfl); (first | assumption | exact rfl)) | ((with_reducible apply zr_skip'))))
            exact ⟨_, ⟨b, rfl, hS, hbl⟩, zq21, zq21⟩
          · obtain ⟨B, hB⟩ := Option.isSome_iff_exists.1 hcs
            obtain ⟨hp1, hp2⟩ := nb_parse hB
            have hBg : (codeN c' n).getD [] = B := by rw [hB]; rfl
            have hBl : B.length ≤ 2147483648 := by omega
            have hBl2 : B.length ≤ 3200000 := by omega
            rw [hBg]
            (repeat (first | ((with_reducible apply zr_seq)) | ((with_reducible apply zr_region); (try simp only [List.append_eq, List.cons_append, List.nil_append])) | ((with_reducible apply zo_end)) | ((with_reducible apply zs_move); (exact rfl); (exact rfl)) | ((with_reducible apply zs_assign); (exact rfl); (exact rfl)) | ((with_reducible apply zs_extract); (exact rfl); (exact rfl); (exact rfl)) | ((with_reducible apply zs_not); (exact rfl); (exact rfl)) | ((with_reducible apply zr_cond_t); (exact rfl); (first | assumption | exact rfl)) | ((with_reducible apply zs_load_ptrA); (exact rfl); (exact rfl); (exact sh_of rfl); (first | assumption | exact St.setH_self _ _ _ | exact Sep.at_ (i := 0) zq35 rfl | exact Sep.at_ (i := 1) zq35 rfl | exact Sep.at_ (i := 2) zq35 rfl | exact Sep.at_ (i := 3) zq35 rfl | exact Sep.at_ (i := 4) zq35 rfl | exact Sep.at_ (i := 5) zq35 rfl | exact Sep.at_ (i := 6) zq35 rfl); (first | exact Nat.le_of_ble_eq_true rfl | exact (by decide) | (focus (simp [cellsD]; done))); (first | (simp only [cells_orow, cD_int, cD_bool, cD_float, cD_nil, cD_ptr0, cD_str, cD_row, cD_mrow, cD_ptr, cD_ref, cD_fn, cD_agg, List.take_zero, List.take_succ_cons, List.take_nil, List.drop_succ_cons, List.drop_zero, List.drop_nil, List.nil_append, List.cons_append, List.append_nil, Nat.zero_add, Nat.reduceAdd]; exact rfl) | exact rfl)) | ((with_reducible apply (zs_allocRef (t := 19))); (exact el_of rfl); (simp [oneD, Value.oneCell']); (exact sh_of rfl); (exact rfl); (intro _; exact rfl); (exact rfl); (simp [cellsD, oneD, Value.oneCell', msgD, nodeD, pairD, cfgD, rdD])) | ((with_reducible apply (zs_h_load_refAll [])); (exact rfl); (first | exact GC.t rfl rfl | exact GC.f rfl rfl | exact GC.gt rfl rfl | exact GC.gf rfl rfl); (exact rfl); (intro hc_; first | exact congrArg some (gd_t hc_) | exact congrArg some (gd_t (band_l hc_)) | exact congrArg some (gd_t (band_l (band_l hc_))) | exact rfl); (exact sh_of rfl); (exact rfl)) | ((with_reducible apply (zs_callQ parse_pf cl_26)); (exact rfl); (exact rfl); ((repeat (first | exact DLes.nil | (apply DLes.cons; first | exact DLe.refl _ | exact DLe.nilB | exact DLe.nilR | exact DLe.nilI | exact dle_mnone | exact dle_nnone | exact dle_awC | exact dle_awM | exact dle_awS | exact dle_awL)))); (first | exact trivial | assumption | ((repeat' (with_reducible refine And.intro ?_ ?_)) <;> first | assumption | omega | exact trivial | (simp; done) | (simp; omega))))))
            rw [hp1, show (some n).isSome = true from rfl, show (some n).getD noNode = n from rfl]
            have g3 : (!true) = false := rfl
            have g4 : (!decide (n = n)) = false := by rw [decide_eq_true rfl]; rfl
            have hnb := hnt.nb
            (repeat (first | ((with_reducible apply zs_yes); (exact rfl); (exact rfl); (first | assumption | exact rfl)) | ((with_reducible apply zs_load_ptrA); (exact rfl); (exact rfl); (exact sh_of rfl); (first | assumption | exact St.setH_self _ _ _ | exact Sep.at_ (i := 0) zq35 rfl | exact Sep.at_ (i := 1) zq35 rfl | exact Sep.at_ (i := 2) zq35 rfl | exact Sep.at_ (i := 3) zq35 rfl | exact Sep.at_ (i := 4) zq35 rfl | exact Sep.at_ (i := 5) zq35 rfl | exact Sep.at_ (i := 6) zq35 rfl); (first | exact Nat.le_of_ble_eq_true rfl | exact (by decide) | (focus (simp [cellsD]; done))); (first | (simp only [cells_orow, cD_int, cD_bool, cD_float, cD_nil, cD_ptr0, cD_str, cD_row, cD_mrow, cD_ptr, cD_ref, cD_fn, cD_agg, List.take_zero, List.take_succ_cons, List.take_nil, List.drop_succ_cons, List.drop_zero, List.drop_nil, List.nil_append, List.cons_append, List.append_nil, Nat.zero_add, Nat.reduceAdd]; exact rfl) | exact rfl))))
            simp only [gd_t (show (!!true) = true from rfl)]
            (repeat (first | ((with_reducible apply zr_seq)) | ((with_reducible apply zr_region); (try simp only [List.append_eq, List.cons_append, List.nil_append])) | ((with_reducible apply zo_end)) | ((with_reducible apply zs_yes); (exact rfl); (exact rfl); (first | assumption | exact rfl)) | ((with_reducible apply zs_not); (exact rfl); (exact rfl)) | ((with_reducible apply zs_pick_f); (exact rfl); (exact rfl); (first | assumption | exact rfl); (exact rfl)) | ((with_reducible apply zr_cond_f); (exact rfl); (first | assumption | exact rfl)) | ((with_reducible apply zr_skip')) | ((with_reducible apply (zs_callQ sameN_pf cl_27)); (exact rfl); (exact rfl); ((repeat (first | exact DLes.nil | (apply DLes.cons; first | exact DLe.refl _ | exact DLe.nilB | exact DLe.nilR | exact DLe.nilI | exact dle_mnone | exact dle_nnone | exact dle_awC | exact dle_awM | exact dle_awS | exact dle_awL)))); (first | exact trivial | assumption | ((repeat' (with_reducible refine And.intro ?_ ?_)) <;> first | assumption | omega | exact trivial | (simp; done) | (simp; omega))))))
            skip
            (try ((with_reducible apply zs_yes); exact rfl; exact rfl; (first | assumption | exact rfl))); refine zo_val rfl rfl (by decide) (zv_buildSlice_own (e := 5) (xs := []) rfl rfl zq32 zq34 rfl (by simp) (by decide) fun id hid => ?_)
            have hS1 := hS.alloc hid ((([] : List D).map cellsD).flatten)
            (repeat (first | ((with_reducible apply zs_move); (exact rfl); (exact rfl))))
            (try ((with_reducible apply zs_yes); exact rfl; exact rfl; (first | assumption | exact rfl))); refine zo_val rfl rfl (by decide) (zv_sapp (e := 5) (i := 0) (ob := some id) (m := 0) (c := 0) (full := ((([] : List D).map cellsD).flatten)) (cells := []) rfl zq32 zq31 zq34 rfl hS1 rfl ⟨rfl, Nat.le_refl _, fun e => (by cases e), rfl⟩ rfl (by rw [bytesD_length]; omega) fun o q1 full s1 hS2 hg => ?_)
            rw [List.nil_append, bytesD_length, bytesD_flat, Nat.zero_add] at hg
            rw [bytesD_length, Nat.zero_add]
            refine zs_assign rfl rfl ?_
            refine zo_end ?_
            by_cases hBp : 0 < B.length
            rotate_left
            · have g2 : decide ((0 : Int) < ((B.length : Nat) : Int)) = false := decide_eq_false (by omega)
              have g3 : decide ((0 : Int) < (((bytesD B).length : Nat) : Int)) = false := decide_eq_false (by rw [bytesD_length]; omega)
              refine zr_sfreeze 0 [2, 3, 4, 5, 6, 13, 14, 15, 16] (bytesD B) (by decide) hS2 rfl hg (bytesD_flat _) (bytesD_one _) (by (repeat (first | (with_reducible exact fzo_nil) | ((with_reducible apply fzo_row); (exact rfl)) | ((with_reducible apply fzo_same); (exact rfl)) | (with_reducible apply fzo_skip)))) fun s2 hS3 => ?_
              have hS : Zm.Sep st s2 [(some a13, nodeD n), (some a6, cfgD c')] := hS3
              (repeat (first | ((with_reducible apply zr_seq)) | ((with_reducible apply zr_region); (try simp only [List.append_eq, List.cons_append, List.nil_append])) | ((with_reducible apply zo_end)) | ((with_reducible apply zs_move); (exact rfl); (exact rfl)) | ((with_reducible apply zs_gtr); (exact rfl); (exact rfl); (exact rfl)) | ((with_reducible apply zs_lenB); (exact rfl); (exact rfl); (exact un_sl rfl)) | ((with_reducible apply zr_cond_f); (exact rfl); (first | assumption | exact rfl)) | ((with_reducible apply zr_skip'))))
              exact ⟨_, ⟨B, rfl, hS, by omega⟩, zq21, zq21⟩
            have g2 : decide ((0 : Int) < ((B.length : Nat) : Int)) = true := decide_eq_true (by omega)
            obtain ⟨id2, rfl⟩ := hg.isBlock hBp
            obtain ⟨x, hx⟩ : ∃ x : Nat, (at_ % 65536).tmod (B.length : Nat) = (x : Int) := ⟨((at_ % 65536).tmod (B.length : Nat)).toNat, by
              have := Int.tmod_nonneg ((B.length : Nat) : Int) (show 0 ≤ at_ % 65536 by omega); omega⟩
            have hx2 : x < B.length := by
              have := Int.tmod_lt_of_pos (at_ % 65536) (show (0 : Int) < (B.length : Nat) by omega)
              omega
            have hcx : full[x]? = some (.v (.int .u8 ((B.getD x 0).toNat : Int))) := (hg.get (by omega)).trans (by rw [getD_in hx2]; simp [byteC, hx2])
            have hfl : full.length = q1 * 1 := hg.len
            have hrm : B.length ≤ q1 := hg.room
            (repeat (first | ((with_reducible apply zr_seq)) | ((with_reducible apply zr_region); (try simp only [List.append_eq, List.cons_append, List.nil_append])) | ((with_reducible apply zo_end)) | ((with_reducible apply zs_move); (exact rfl); (exact rfl)) | ((with_reducible apply zs_gtr); (exact rfl); (exact rfl); (exact rfl)) | ((with_reducible apply zr_cond_t); (exact rfl); (first | assumption | exact rfl)) | ((with_reducible apply (zs_mask (p := 65536) 16)); (exact rfl); (exact rfl); (exact rfl); (exact rfl); (decide); (decide); (decide)) | ((with_reducible apply zs_len_mrow); (exact rfl); (exact rfl); (exact un_sl rfl))))
            (try ((with_reducible apply zs_yes); exact rfl; exact rfl; (first | assumption | exact rfl))); refine zo_pure0 rfl rfl (by decide) (zp_rem rfl rfl rfl (by omega) hx) ?_
            (repeat (first | ((with_reducible apply zs_move); (exact rfl); (exact rfl)) | ((with_reducible apply zs_load_ptr); (exact rfl); (exact rfl); (exact sh_of rfl); (first | assumption | exact St.setH_self _ _ _ | exact Sep.at_ (i := 0) zq35 rfl | exact Sep.at_ (i := 1) zq35 rfl | exact Sep.at_ (i := 2) zq35 rfl | exact Sep.at_ (i := 3) zq35 rfl | exact Sep.at_ (i := 4) zq35 rfl | exact Sep.at_ (i := 5) zq35 rfl | exact Sep.at_ (i := 6) zq35 rfl); (first | exact rfl | assumption)) | ((with_reducible apply zs_index_mrow1); (exact rfl); (exact rfl); (exact rfl); (exact un_sl rfl); (exact ii_of rfl); (first | omega | (simp only [List.length_map, List.length_take, List.length_drop, List.length_append, List.length_cons, List.length_nil, List.length_replicate, rowR_length, intR_length, msgR_length, pairR_length]; omega) | decide); (first | omega | (simp only [List.length_map, List.length_take, List.length_drop, List.length_append, List.length_cons, List.length_nil, List.length_replicate, rowR_length, intR_length, msgR_length, pairR_length]; omega) | decide); (first | (with_reducible exact Int.toNat_natCast _) | (simp only [Int.reduceToNat]; exact rfl) | exact rfl))))
            have hP : True ∧ _ := ⟨trivial, hS2⟩
            clear hS2
            (try ((with_reducible apply zs_yes); exact rfl; exact rfl; (first | assumption | exact rfl))); refine zo_pure0 rfl rfl (by decide) (zp_xor rfl rfl rfl (bxor_byte _ _)) ?_
            (repeat (first | ((with_reducible apply zs_index_mrow1); (exact rfl); (exact rfl); (exact rfl); (exact un_sl rfl); (exact ii_of rfl); (first | omega | (simp only [List.length_map, List.length_take, List.length_drop, List.length_append, List.length_cons, List.length_nil, List.length_replicate, rowR_length, intR_length, msgR_length, pairR_length]; omega) | decide); (first | omega | (simp only [List.length_map, List.length_take, List.length_drop, List.length_append, List.length_cons, List.length_nil, List.length_replicate, rowR_length, intR_length, msgR_length, pairR_length]; omega) | decide); (first | (with_reducible exact Int.toNat_natCast _) | (simp only [Int.reduceToNat]; exact rfl) | exact rfl))))
            have hS2 := hP.2
            clear hP
            refine zs_store (k := 1) rfl rfl zq33 (hS2.at_ (i := 0) rfl) rfl (by simp [cellsD, oneD, Value.oneCell']) (by omega) (bset_cells full x _ (by omega)) ?_
            have hS3 := hS2.put (i := 0) rfl (full.set x (.v (.int .u8 ((B.getD x 0 ^^^ by_).toNat : Int))))
            have hg3 := bset1 hg x (.v (.int .u8 ((B.getD x 0 ^^^ by_).toNat : Int)))
            rw [bbyteC_set] at hg3
            have hXl : (B.set x (B.getD x 0 ^^^ by_)).length = B.length := List.length_set
            obtain ⟨X, hX⟩ : ∃ X, X = B.set x (B.getD x 0 ^^^ by_) := ⟨_, rfl⟩
            rw [← hX] at hg3 hXl
            rw [← hXl] at hg3
            rw [← hXl]
            refine zo_sfreeze 0 [2, 3, 4, 5, 6, 13, 14, 15, 16] (bytesD X) (by decide) hS3 rfl hg3 (bytesD_flat _) (bytesD_one _) (by (repeat (first | (with_reducible exact fzo_nil) | ((with_reducible apply fzo_row); (exact rfl)) | ((with_reducible apply fzo_same); (exact rfl)) | (with_reducible apply fzo_skip)))) fun s2 hS4 => ?_
            have hS : Zm.Sep st s2 [(some a13, nodeD n), (some a6, cfgD c')] := hS4
            (repeat (first | ((with_reducible apply zo_end))))
            exact ⟨_, ⟨X, rfl, hS, by omega⟩, zq21, zq21⟩
        clear hbl hcond
        rintro e s ⟨b, rfl, hS, hbl⟩
        (repeat (first | ((with_reducible apply zr_seq)) | ((with_reducible apply zr_region); (try simp only [List.append_eq, List.cons_append, List.nil_append])) | ((with_reducible apply zo_end)) | ((with_reducible apply zs_move); (exact rfl); (exact rfl)) | ((with_reducible apply zs_assign); (exact rfl); (exact rfl)) | ((with_reducible apply zs_extract); (exact rfl); (exact rfl); (exact rfl)) | ((with_reducible apply zs_load_ptrA); (exact rfl); (exact rfl); (exact sh_of rfl); (first | assumption | exact St.setH_self _ _ _ | exact Sep.at_ (i := 0) zq35 rfl | exact Sep.at_ (i := 1) zq35 rfl | exact Sep.at_ (i := 2) zq35 rfl | exact Sep.at_ (i := 3) zq35 rfl | exact Sep.at_ (i := 4) zq35 rfl | exact Sep.at_ (i := 5) zq35 rfl | exact Sep.at_ (i := 6) zq35 rfl); (first | exact Nat.le_of_ble_eq_true rfl | exact (by decide) | (focus (simp [cellsD]; done))); (first | (simp only [cells_orow, cD_int, cD_bool, cD_float, cD_nil, cD_ptr0, cD_str, cD_row, cD_mrow, cD_ptr, cD_ref, cD_fn, cD_agg, List.take_zero, List.take_succ_cons, List.take_nil, List.drop_succ_cons, List.drop_zero, List.drop_nil, List.nil_append, List.cons_append, List.append_nil, Nat.zero_add, Nat.reduceAdd]; exact rfl) | exact rfl)) | ((with_reducible apply (zs_allocRef (t := 21))); (exact el_of rfl); (simp [oneD, Value.oneCell']); (exact sh_of rfl); (exact rfl); (intro _; exact rfl); (exact rfl); (simp [cellsD, oneD, Value.oneCell', msgD, nodeD, pairD, cfgD, rdD])) | ((with_reducible apply (zs_callQ parse_pf cl_26)); (exact rfl); (exact rfl); ((repeat (first | exact DLes.nil | (apply DLes.cons; first | exact DLe.refl _ | exact DLe.nilB | exact DLe.nilR | exact DLe.nilI | exact dle_mnone | exact dle_nnone | exact dle_awC | exact dle_awM | exact dle_awS | exact dle_awL)))); (first | exact trivial | assumption | ((repeat' (with_reducible refine And.intro ?_ ?_)) <;> first | assumption | omega | exact trivial | (simp; done) | (simp; omega))))))
        refine zr_cutK [2, 3, 4, 5, 6, 13, 14, 15, 16] (fun e s => e = [] ∧ Zm.Sep st s [(some a13, nodeD n), (some a6, cfgD c')]) zq19 ?_ ?_
        · cases hz : parseN c' b with
          | none =>
            rw [show (none : Option NodeV).isSome = false from rfl]
            (repeat (first | ((with_reducible apply zr_cond_f); (exact rfl); (first | assumption | exact rfl)) | ((with_reducible apply zr_skip'))))
            exact ⟨_, ⟨rfl, hS⟩, zq21, zq21⟩
          | some z =>
            obtain ⟨hz1, hz2⟩ := nb_back hz
            rw [show (some z).isSome = true from rfl, show (some z).getD noNode = z from rfl]
            (repeat (first | ((with_reducible apply zr_seq)) | ((with_reducible apply zr_region); (try simp only [List.append_eq, List.cons_append, List.nil_append])) | ((with_reducible apply zo_end)) | ((with_reducible apply zs_move); (exact rfl); (exact rfl)) | ((with_reducible apply zs_assign); (exact rfl); (exact rfl)) | ((with_reducible apply zs_extract); (exact rfl); (exact rfl); (exact rfl)) | ((with_reducible apply zs_not); (exact rfl); (exact rfl)) | ((with_reducible apply zr_cond_t); (exact rfl); (first | assumption | exact rfl)) | ((with_reducible apply zs_load_refAll); (exact rfl); (exact rfl); (exact sh_of rfl); (exact rfl)) | ((with_reducible apply zs_orB); (exact rfl); (exact rfl); (exact rfl); (intro hp_; first | exact congrArg some (gd_t hp_) | exact rfl)) | ((with_reducible apply zs_load_ptrA); (exact rfl); (exact rfl); (exact sh_of rfl); (first | assumption | exact St.setH_self _ _ _ | exact Sep.at_ (i := 0) zq35 rfl | exact Sep.at_ (i := 1) zq35 rfl | exact Sep.at_ (i := 2) zq35 rfl | exact Sep.at_ (i := 3) zq35 rfl | exact Sep.at_ (i := 4) zq35 rfl | exact Sep.at_ (i := 5) zq35 rfl | exact Sep.at_ (i := 6) zq35 rfl); (first | exact Nat.le_of_ble_eq_true rfl | exact (by decide) | (focus (simp [cellsD]; done))); (first | (simp only [cells_orow, cD_int, cD_bool, cD_float, cD_nil, cD_ptr0, cD_str, cD_row, cD_mrow, cD_ptr, cD_ref, cD_fn, cD_agg, List.take_zero, List.take_succ_cons, List.take_nil, List.drop_succ_cons, List.drop_zero, List.drop_nil, List.nil_append, List.cons_append, List.append_nil, Nat.zero_add, Nat.reduceAdd]; exact rfl) | exact rfl)) | ((with_reducible apply (zs_h_move [])); (exact rfl); (first | exact GC.t rfl rfl | exact GC.f rfl rfl | exact GC.gt rfl rfl | exact GC.gf rfl rfl); (exact rfl); (intro hc_; first | exact congrArg some (gd_t hc_) | exact congrArg some (gd_t (band_l hc_)) | exact congrArg some (gd_t (band_l (band_l hc_))) | exact rfl)) | ((with_reducible apply (zs_h_strne [])); (exact rfl); (first | exact GC.t rfl rfl | exact GC.f rfl rfl | exact GC.gt rfl rfl | exact GC.gf rfl rfl); (exact rfl); (intro hc_; first | exact congrArg some (gd_t hc_) | exact congrArg some (gd_t (band_l hc_)) | exact congrArg some (gd_t (band_l (band_l hc_))) | exact rfl); (intro hc_; first | exact congrArg some (gd_t hc_) | exact congrArg some (gd_t (band_l hc_)) | exact congrArg some (gd_t (band_l (band_l hc_))) | exact rfl)) | ((with_reducible apply (zs_h_toStr [])); (exact rfl); (first | exact GC.t rfl rfl | exact GC.f rfl rfl | exact GC.gt rfl rfl | exact GC.gf rfl rfl); (exact rfl); (exact un_sl rfl); (exact Try.underlying5); (exact Try.underlying9); (intro hc_; first | exact congrArg some (gd_t hc_) | exact congrArg some (gd_t (band_l hc_)) | exact congrArg some (gd_t (band_l (band_l hc_))) | exact rfl)) | ((with_reducible apply (zs_callQ code_pf cl_12)); (exact rfl); (exact rfl); ((repeat (first | exact DLes.nil | (apply DLes.cons; first | exact DLe.refl _ | exact DLe.nilB | exact DLe.nilR | exact DLe.nilI | exact dle_mnone | exact dle_nnone | exact dle_awC | exact dle_awM | exact dle_awS | exact dle_awL)))); (first | exact trivial | assumption | ((repeat' (with_reducible refine And.intro ?_ ?_)) <;> first | assumption | omega | exact trivial | (simp; done) | (simp; omega))))))
            rw [hz1, show (some b).isSome = true from rfl, show (some b).getD [] = b from rfl]
            have g3 : (!true) = false := rfl
            skip
            simp only [gd_t (show (!!true) = true from rfl)]
            rw [show (!true || !b == b) = false by rw [beq_self_eq_true]; rfl]
            (repeat (first | ((with_reducible apply zr_cond_f); (exact rfl); (first | assumption | exact rfl)) | ((with_reducible apply zr_skip'))))
            exact ⟨_, ⟨rfl, hS⟩, zq21, zq21⟩
        rintro e s ⟨rfl, hS⟩
        (repeat (first | ((with_reducible apply zr_region); (try simp only [List.append_eq, List.cons_append, List.nil_append])) | ((with_reducible apply zs_move); (exact rfl); (exact rfl)) | ((with_reducible apply zs_load_ptrA); (exact rfl); (exact rfl); (exact sh_of rfl); (first | assumption | exact St.setH_self _ _ _ | exact Sep.at_ (i := 0) zq35 rfl | exact Sep.at_ (i := 1) zq35 rfl | exact Sep.at_ (i := 2) zq35 rfl | exact Sep.at_ (i := 3) zq35 rfl | exact Sep.at_ (i := 4) zq35 rfl | exact Sep.at_ (i := 5) zq35 rfl | exact Sep.at_ (i := 6) zq35 rfl); (first | exact Nat.le_of_ble_eq_true rfl | exact (by decide) | (focus (simp [cellsD]; done))); (first | (simp only [cells_orow, cD_int, cD_bool, cD_float, cD_nil, cD_ptr0, cD_str, cD_row, cD_mrow, cD_ptr, cD_ref, cD_fn, cD_agg, List.take_zero, List.take_succ_cons, List.take_nil, List.drop_succ_cons, List.drop_zero, List.drop_nil, List.nil_append, List.cons_append, List.append_nil, Nat.zero_add, Nat.reduceAdd]; exact rfl) | exact rfl))))
        (try ((with_reducible apply zs_yes); exact rfl; exact rfl; (first | assumption | exact rfl))); refine zo_callU (nodeAny_ps (l := l) (tl := tl) ⟨hsm, hl⟩) Try.func28 zq36 rfl rfl rfl rfl (by decide) rfl rfl zq3 ?_
        refine ⟨rfl, fun d hd => ?_⟩
        obtain ⟨n', rfl, hnt'⟩ := hd
        (repeat (first | ((with_reducible apply (zs_sstore (i := 0))); (exact rfl); (exact rfl); (exact sh_of rfl); (assumption); (exact rfl); (first | exact rfl | (simp [cells_orow])); ((try rw [cells_orow]); (repeat (first | exact one_nil | (apply one_cons; (first | exact rfl | exact one_orow _ _ _))))); (first | exact Nat.le_of_ble_eq_true rfl | omega | (focus (simp [cellsD, msgD, nodeD, pairD, cfgD, rdD]; done))); (first | (simp only [cells_orow, cD_int, cD_bool, cD_float, cD_nil, cD_ptr0, cD_str, cD_row, cD_mrow, cD_ptr, cD_ref, cD_fn, cD_agg, List.take_zero, List.take_succ_cons, List.take_nil, List.drop_succ_cons, List.drop_zero, List.drop_nil, List.nil_append, List.cons_append, List.append_nil, Nat.zero_add, Nat.reduceAdd]; exact rfl) | exact rfl); (intro sS hS); (try simp only [List.set_cons_zero, List.set_cons_succ] at hS)) | ((with_reducible apply zr_region); (try simp only [List.append_eq, List.cons_append, List.nil_append])) | ((with_reducible apply zo_end)) | ((with_reducible apply zo_endB)) | ((with_reducible apply zs_move); (exact rfl); (exact rfl)) | ((with_reducible apply zs_assign); (exact rfl); (exact rfl)) | ((with_reducible apply zs_add); (exact rfl); (exact rfl); (exact rfl); (first | (with_reducible assumption) | exact wrap_in64 (by omega) (by omega)))))
        exact ⟨q - 1, _, by omega, ⟨i + 1, n', b, by omega, rfl, hS, hnt', hbl⟩, zq21, zq21⟩
      · have e1 : (decide (0 < longL c') && decide (longL c' ≤ Mst) && true) = true := by rw [decide_eq_true hm.1, decide_eq_true hm.2]; rfl
        (repeat (first | ((with_reducible apply zr_seq)) | ((with_reducible apply zr_region); (try simp only [List.append_eq, List.cons_append, List.nil_append])) | ((with_reducible apply zo_end)) | ((with_reducible apply zs_move); (exact rfl); (exact rfl)) | ((with_reducible apply zs_assign); (exact rfl); (exact rfl)) | ((with_reducible apply zs_gtr); (exact rfl); (exact rfl); (exact rfl)) | (with_reducible refine zr_exit ?_; simp only [Zthen, Zblock, ↓reduceIte]) | ((with_reducible apply zs_and); (exact rfl); (exact rfl); (intro hp_; first | exact congrArg some (gd_t hp_) | exact rfl); (exact rfl)) | ((with_reducible apply (zs_h_move [])); (exact rfl); (first | exact GC.t rfl rfl | exact GC.f rfl rfl | exact GC.gt rfl rfl | exact GC.gf rfl rfl); (exact rfl); (intro hc_; first | exact congrArg some (gd_t hc_) | exact congrArg some (gd_t (band_l hc_)) | exact congrArg some (gd_t (band_l (band_l hc_))) | exact rfl)) | ((with_reducible apply (zs_h_leq [])); (exact rfl); (first | exact GC.t rfl rfl | exact GC.f rfl rfl | exact GC.gt rfl rfl | exact GC.gf rfl rfl); (exact rfl); (intro hc_; first | exact congrArg some (gd_t hc_) | exact congrArg some (gd_t (band_l hc_)) | exact congrArg some (gd_t (band_l (band_l hc_))) | exact rfl); (intro hc_; first | exact congrArg some (gd_t hc_) | exact congrArg some (gd_t (band_l hc_)) | exact congrArg some (gd_t (band_l (band_l hc_))) | exact rfl)) | ((with_reducible apply (zs_h_callQ [] awake18_pf cl_14)); (exact rfl); (first | exact GC.t rfl rfl | exact GC.f rfl rfl | exact GC.gt rfl rfl | exact GC.gf rfl rfl); (exact rfl); (intro hc_; (repeat ((with_reducible apply evs_cons); (first | exact congrArg some (gd_t hc_) | exact congrArg some (gd_t (band_l hc_)) | exact rfl))); exact evs_nil); ((repeat (first | exact DLes.nil | (apply DLes.cons; first | exact DLe.refl _ | exact DLe.nilB | exact DLe.nilR | exact DLe.nilI | exact dle_mnone | exact dle_nnone | exact dle_awC | exact dle_awM | exact dle_awS | exact dle_awL)))); (intro hc_; first | exact trivial | assumption | ((try simp only [Bool.and_eq_true, decide_eq_true_eq, Bool.not_eq_true'] at hc_); (repeat' (with_reducible refine And.intro ?_ ?_)) <;> first | assumption | omega | exact trivial | (simp; done) | (simp; omega))))))
        rw [e1]
        (repeat (first | ((with_reducible apply zr_retZ); (exact rfl); (repeat (first | exact resD_nil _ _ _ | ((with_reducible apply resD_tmp); (exact rfl)) | ((with_reducible apply resD_cell_agg); (exact rfl); (exact sh_of rfl); (first | assumption | exact St.setH_self _ _ _ | exact Sep.at_ (i := 0) zq35 rfl | exact Sep.at_ (i := 1) zq35 rfl | exact Sep.at_ (i := 2) zq35 rfl | exact Sep.at_ (i := 3) zq35 rfl | exact Sep.at_ (i := 4) zq35 rfl | exact Sep.at_ (i := 5) zq35 rfl | exact Sep.at_ (i := 6) zq35 rfl); (exact rfl)) | ((with_reducible apply resD_cell); (exact rfl); (exact sh_of rfl); (first | assumption | exact St.setH_self _ _ _ | exact Sep.at_ (i := 0) zq35 rfl | exact Sep.at_ (i := 1) zq35 rfl | exact Sep.at_ (i := 2) zq35 rfl | exact Sep.at_ (i := 3) zq35 rfl | exact Sep.at_ (i := 4) zq35 rfl | exact Sep.at_ (i := 5) zq35 rfl | exact Sep.at_ (i := 6) zq35 rfl); (exact rfl)))); (simp only [resOf]))))
        exact KE.mk st hS.ext hK
end Go.Proofs.ZtLe
namespace Go.Proofs.ZtLe
open Go.RowKit Go.Proofs Go.Proofs.Zm
set_option linter.unusedVariables false
set_option maxHeartbeats 20000000
set_option maxRecDepth 100000
attribute [local irreducible] ZWp ZOps ZPure ZPure0 ZVal ZOp SoundF

/-! ### a law's arguments -/
theorem cfg_of {ds : List D} (h : CellsOk [.int .i64, .int .i64, .int .i64, .int .i64, .int .i64, .int .i64, .int .i64, .int .i64, .int .i64, .float] ds) : ∃ c : CfgV, ds = cfgD c ∧ True := by
  obtain ⟨d0, r0, rfl, h0, h⟩ := h.cons
  obtain ⟨d1, r1, rfl, h1, h⟩ := h.cons
  obtain ⟨d2, r2, rfl, h2, h⟩ := h.cons
  obtain ⟨d3, r3, rfl, h3, h⟩ := h.cons
  obtain ⟨d4, r4, rfl, h4, h⟩ := h.cons
  obtain ⟨d5, r5, rfl, h5, h⟩ := h.cons
  obtain ⟨d6, r6, rfl, h6, h⟩ := h.cons
  obtain ⟨d7, r7, rfl, h7, h⟩ := h.cons
  obtain ⟨d8, r8, rfl, h8, h⟩ := h.cons
  obtain ⟨d9, r9, rfl, h9, h⟩ := h.cons
  obtain rfl := h.nil
  obtain ⟨n0, rfl, _⟩ := h0.toInt
  obtain ⟨n1, rfl, _⟩ := h1.toInt
  obtain ⟨n2, rfl, _⟩ := h2.toInt
  obtain ⟨n3, rfl, _⟩ := h3.toInt
  obtain ⟨n4, rfl, _⟩ := h4.toInt
  obtain ⟨n5, rfl, _⟩ := h5.toInt
  obtain ⟨n6, rfl, _⟩ := h6.toInt
  obtain ⟨n7, rfl, _⟩ := h7.toInt
  obtain ⟨n8, rfl, _⟩ := h8.toInt
  obtain ⟨n9, rfl, _⟩ := h9.toFloat
  exact ⟨⟨n0, n1, n2, n3, n4, n5, n6, n7, n8, n9⟩, rfl, trivial⟩
theorem ints_of {d : D} (h : CellOk (.slice [.int .i64]) d) : ∃ l : List Int, d = .row (intR l) 1 0 ∧ True := by
  obtain ⟨xs, rfl, hl, hx⟩ := h.toRow
  obtain ⟨l, rfl, _⟩ := map_choose (fun b : Int => [.v (.int .i64 b)]) (fun _ => True) xs (fun i x h => by
    obtain ⟨d, ds, rfl, h1, h2⟩ := (hx i x h).cons
    obtain rfl := h2.nil
    obtain ⟨n, rfl, h3, h4⟩ := h1.toInt
    exact ⟨n, rfl, trivial⟩)
  exact ⟨l, rfl, trivial⟩
end Go.Proofs.ZtLe
namespace Go.Proofs.ZtLe
open Go.RowKit Go.Proofs Go.Proofs.Zm
/-! ### a law's arguments: messages -/
theorem msg_of {ds : List D} (h : CellsOkR [.int .i64, .slice [.int .u8], .slice [.int .u8]] ds) : ∃ m : MsgV, ds = msgD m ∧ (-9223372036854775808 ≤ m.1 ∧ m.1 ≤ 9223372036854775807) ∧ m.2.1.length ≤ 140737488351232 ∧ m.2.2.length ≤ 140737488351232 := by
  obtain ⟨d1, x1, rfl, h1, k1⟩ := h.cons
  obtain ⟨d2, x2, rfl, h2, k2⟩ := k1.cons
  obtain ⟨d3, x3, rfl, h3, k3⟩ := k2.cons
  obtain rfl := k3.nil
  obtain ⟨n1, rfl, a1, b1⟩ := h1.toInt
  obtain ⟨b2, rfl, l2⟩ := h2.toBytes
  obtain ⟨b3, rfl, l3⟩ := h3.toBytes
  simp [IntKind.min, IntKind.max, IntKind.signed, IntKind.bits] at a1 b1
  exact ⟨(n1, b2, b3), rfl, ⟨a1, b1⟩, l2, l3⟩
theorem msgs_of {d : D} (h : CellOkR (.slice [.int .i64, .slice [.int .u8], .slice [.int .u8]]) d) : ∃ l : List MsgV, d = .row (msgR l) 3 0 ∧ l.length ≤ 140737488351232 ∧ ∀ m ∈ l, (-9223372036854775808 ≤ m.1 ∧ m.1 ≤ 9223372036854775807) ∧ m.2.1.length ≤ 140737488351232 ∧ m.2.2.length ≤ 140737488351232 := by
  obtain ⟨xs, rfl, hl, hx⟩ := h.toRow
  obtain ⟨l, rfl, hp⟩ := map_choose msgD (fun m => (-9223372036854775808 ≤ m.1 ∧ m.1 ≤ 9223372036854775807) ∧ m.2.1.length ≤ 140737488351232 ∧ m.2.2.length ≤ 140737488351232) xs (fun i x h => msg_of (hx i x h))
  exact ⟨l, rfl, by simpa using hl, hp⟩
end Go.Proofs.ZtLe
namespace Go.Proofs.ZtLe
open Go.RowKit Go.Proofs Go.Proofs.Zm
/-! ### a law's arguments: nodes -/
theorem rowsR_of {d : D} (h : CellOkR (.slice [.slice [.int .u8]]) d) : ∃ l : List Bs, d = .row (rowR l) 1 0 ∧ l.length ≤ 140737488351232 := by
  obtain ⟨xs, rfl, hl, hx⟩ := h.toRow
  obtain ⟨l, rfl, _⟩ := map_choose (fun b : Bs => [.row (bytesD b) 1 0]) (fun _ => True) xs (fun i x h => by
    obtain ⟨d, ds, rfl, h1, h2⟩ := (hx i x h).cons
    obtain rfl := h2.nil
    obtain ⟨b, rfl, _⟩ := h1.toBytes
    exact ⟨b, rfl, trivial⟩)
  exact ⟨l, rfl, by simpa using hl⟩
theorem intsR_of {d : D} (h : CellOkR (.slice [.int .i64]) d) : ∃ l : List Int, d = .row (intR l) 1 0 ∧ l.length ≤ 140737488351232 := by
  obtain ⟨xs, rfl, hl, hx⟩ := h.toRow
  obtain ⟨l, rfl, _⟩ := map_choose (fun n : Int => [.v (.int .i64 n)]) (fun _ => True) xs (fun i x h => by
    obtain ⟨d, ds, rfl, h1, h2⟩ := (hx i x h).cons
    obtain rfl := h2.nil
    obtain ⟨n, rfl, _⟩ := h1.toInt
    exact ⟨n, rfl, trivial⟩)
  exact ⟨l, rfl, by simpa using hl⟩
theorem node_of {ds : List D} (h : CellsOkR [.bool, .slice [.slice [.int .u8]], .slice [.slice [.int .u8]], .slice [.int .i64], .slice [.int .i64, .slice [.int .u8], .slice [.int .u8]]] ds) : ∃ n : NodeV, ds = nodeD n ∧
    ((n.keys.length ≤ 140737488351232 ∧ n.vals.length ≤ 140737488351232) ∧ n.kids.length ≤ 140737488351232 ∧ n.msgs.length ≤ 140737488351232) ∧ ∀ m ∈ n.msgs, m.2.1.length ≤ 140737488351232 ∧ m.2.2.length ≤ 140737488351232 := by
  obtain ⟨d1, x1, rfl, h1, k1⟩ := h.cons
  obtain ⟨d2, x2, rfl, h2, k2⟩ := k1.cons
  obtain ⟨d3, x3, rfl, h3, k3⟩ := k2.cons
  obtain ⟨d4, x4, rfl, h4, k4⟩ := k3.cons
  obtain ⟨d5, x5, rfl, h5, k5⟩ := k4.cons
  obtain rfl := k5.nil
  obtain ⟨b, rfl⟩ := h1.toBool
  obtain ⟨ks, rfl, l2⟩ := rowsR_of h2
  obtain ⟨vs, rfl, l3⟩ := rowsR_of h3
  obtain ⟨is, rfl, l4⟩ := intsR_of h4
  obtain ⟨ms, rfl, l5, l6⟩ := msgs_of h5
  exact ⟨⟨b, ks, vs, is, ms⟩, rfl, ⟨⟨l2, l3⟩, l4, l5⟩, fun m hm => (l6 m hm).2⟩
end Go.Proofs.ZtLe
namespace Go.Proofs.ZtLe
open Go.RowKit Go.Proofs Go.Proofs.Zm
/-! ### a law's arguments: bytes -/
theorem u8_is {n : Int} (h : 0 ≤ n ∧ n ≤ 255) : ∃ y : UInt8, n = ((y.toNat : Nat) : Int) := by
  refine ⟨UInt8.ofNat n.toNat, ?_⟩
  rw [UInt8.toNat_ofNat_of_lt' (by show _ < 256; omega)]
  omega
end Go.Proofs.ZtLe
