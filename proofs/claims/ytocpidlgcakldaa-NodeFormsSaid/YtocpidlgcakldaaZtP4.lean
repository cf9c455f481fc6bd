/- A part of the proof of NodeMsgForms: walks of the functions that it reaches. No condition. -/
import Derived.Test.YtocpidlgcakldaaZtP3
import Derived.Test.YtocpidlgcakldaaZmAuto
import Derived.Test.YtocpidlgcakldaaZmP2
namespace Go.Proofs.ZtLe
open Go.RowKit Go.Proofs Go.Proofs.Zm
set_option linter.unusedVariables false
set_option linter.unusedSimpArgs false
set_option maxHeartbeats 20000000
set_option maxRecDepth 100000
attribute [local irreducible] ZWp ZOps ZPure ZPure0 ZVal ZOp SoundF

/-! ### dumbwaiterlaw18.put -/
def putIn (k : Bs) (s : Bool × List Bs) (x : Bs) : Bool × List Bs := (s.1 || lt k x || k == x, (if !s.1 && lt k x then s.2 ++ [k] else s.2) ++ [x])
def putTo (k : Bs) (l : List Bs) : Bool × List Bs := l.foldl (putIn k) (false, [])
def putL (l : List Bs) (k : Bs) : List Bs := if (putTo k l).1 then (putTo k l).2 else (putTo k l).2 ++ [k]
theorem putTo_snoc (k : Bs) (l : List Bs) (x : Bs) : putTo k (l ++ [x]) = putIn k (putTo k l) x := by unfold putTo; rw [List.foldl_append]; rfl
/-! ### dumbwaiterlaw18.Small -/
structure SmallC (c : CfgV) : Prop where
  hkey : 1 ≤ c.keyMax ∧ c.keyMax ≤ 2
  hval : 8 ≤ c.valMax ∧ c.valMax ≤ 9
  hc : 1 ≤ c.c ∧ c.c ≤ 2
  hf : 3 ≤ c.f ∧ c.f ≤ 4
  hm : c.f * c.c ≤ c.m ∧ c.m ≤ c.f * c.c + 1
  hl : c.c + 1 ≤ c.l ∧ c.l ≤ c.c + 2
  he : 1 ≤ c.e ∧ c.e ≤ 4
  hmaxKeys : 1 ≤ c.maxKeys ∧ c.maxKeys ≤ 8
  hz : 1 ≤ c.z ∧ c.z ≤ 2
theorem small_ps {c : CfgV} (h : True) : PureS Try.prog 21 [.agg (cfgD c)] (fun d => ∃ c', d = .agg (cfgD c') ∧ SmallC c') := by
  refine sound_ofA Try.func21 rfl Try.results21 ?_
  rintro w0 args st K ⟨rfl, hK⟩
  rw [Try.ntmps21]; refine ⟨by simp, ?_⟩
  have hS := Sep.nil st
  (repeat (first | ((with_reducible apply zr_seq)) | ((with_reducible apply zr_region); (try simp only [List.append_eq, List.cons_append, List.nil_append])) | ((with_reducible apply zo_end)) | ((with_reducible apply (zs_boxRef (t := 1))); (exact rfl); (exact rfl)) | ((with_reducible apply (zs_salloc (t := 2))); (exact rfl); (exact el_of rfl); (simp [oneD, Value.oneCell']); (assumption); (intro a2 sS hS))))
  obtain ⟨fl, hfl⟩ : ∃ fl, ([[D.v (Value.float FloatKind.f64 4607182418800017408)], [D.v (Value.float FloatKind.f64 4602678819172646912)], [D.v (Value.float FloatKind.f64 4604930618986332160)], [D.v (Value.float FloatKind.f64 4603579539098121011)]] : List (List D)).getD (c.l / 16 % 4).toNat [] = [.v (.float .f64 fl)] := by
    have h4 : (c.l / 16 % 4).toNat < 4 := by omega
    generalize (c.l / 16 % 4).toNat = q at *
    match q, h4 with
    | 0, _ => exact ⟨_, rfl⟩
    | 1, _ => exact ⟨_, rfl⟩
    | 2, _ => exact ⟨_, rfl⟩
    | 3, _ => exact ⟨_, rfl⟩
  have hp : 3 ≤ (c.f % 2 + 3) * (c.c % 2 + 1) ∧ (c.f % 2 + 3) * (c.c % 2 + 1) ≤ 8 := by
    rcases (by omega : c.f % 2 = 0 ∨ c.f % 2 = 1) with e1 | e1 <;> rcases (by omega : c.c % 2 = 0 ∨ c.c % 2 = 1) with e2 | e2 <;> rw [e1, e2] <;> decide
  have hw1 : IntKind.i64.wrap ((c.f % 2 + 3) * (c.c % 2 + 1)) = (c.f % 2 + 3) * (c.c % 2 + 1) := wrap_in64 (by omega) (by omega)
  have hw2 : IntKind.i64.wrap ((c.f % 2 + 3) * (c.c % 2 + 1) + c.m % 2) = (c.f % 2 + 3) * (c.c % 2 + 1) + c.m % 2 := wrap_in64 (by omega) (by omega)
  refine zr_cutK [1, 2, 3] (fun e s => ∃ a3, e = [(3, .ptr a3 0)] ∧ Zm.Sep st s [(some a3, [D.v (Value.int IntKind.i64 (c.keyMax % 2 + 1)), D.v (Value.int IntKind.i64 (c.valMax % 2 + 8)), D.v (Value.int IntKind.i64 (c.c % 2 + 1)), D.v (Value.int IntKind.i64 (c.f % 2 + 3)), D.v (Value.int IntKind.i64 0), D.v (Value.int IntKind.i64 0), D.v (Value.int IntKind.i64 (c.e % 4 + 1)), D.v (Value.int IntKind.i64 (c.maxKeys % 8 + 1)), D.v (Value.int IntKind.i64 (c.z % 2 + 1)), D.v (Value.float FloatKind.f64 fl)]), (some a2, [D.v (Value.int IntKind.i64 0), D.v (Value.int IntKind.i64 0), D.v (Value.int IntKind.i64 0), D.v (Value.int IntKind.i64 0), D.v (Value.int IntKind.i64 0), D.v (Value.int IntKind.i64 0), D.v (Value.int IntKind.i64 0), D.v (Value.int IntKind.i64 0), D.v (Value.int IntKind.i64 0), D.v (Value.float FloatKind.f64 0)])]) zq15 ?_ ?_
  · refine zc_begin (m := 38) ([]) [37] zq28 rfl ?_
    refine zc_take0 (i := 0) rfl zq28 zq28 zq28 zq28 zq20 rfl rfl zq14 ?_
    refine zc_take0 (i := 1) rfl zq28 zq28 zq28 zq28 zq20 rfl rfl (zp_load_ref rfl zq25 rfl rfl) ?_
    refine zc_take0 (i := 2) rfl zq28 zq28 zq28 zq28 zq20 rfl rfl (ZPure0.pure (zp_mask (p := 2) 1 rfl rfl rfl rfl (by decide) (by decide) (by decide))) ?_
    refine zc_take0 (i := 3) rfl zq28 zq28 zq28 zq28 zq20 rfl rfl (ZPure0.pure (zp_add rfl rfl rfl zq21)) ?_
    refine zc_take0 (i := 4) rfl zq28 zq28 zq28 zq28 zq20 rfl rfl zq14 ?_
    refine zc_take0 (i := 5) rfl zq28 zq28 zq28 zq28 zq20 rfl rfl (zp_load_ref rfl zq25 rfl rfl) ?_
    refine zc_take0 (i := 6) rfl zq28 zq28 zq28 zq28 zq20 rfl rfl (ZPure0.pure (zp_mask (p := 2) 1 rfl rfl rfl rfl (by decide) (by decide) (by decide))) ?_
    refine zc_take0 (i := 7) rfl zq28 zq28 zq28 zq28 zq20 rfl rfl (ZPure0.pure (zp_add rfl rfl rfl zq21)) ?_
    refine zc_take0 (i := 8) rfl zq28 zq28 zq28 zq28 zq20 rfl rfl zq14 ?_
    refine zc_take0 (i := 9) rfl zq28 zq28 zq28 zq28 zq20 rfl rfl (zp_load_ref rfl zq25 rfl rfl) ?_
    refine zc_take0 (i := 10) rfl zq28 zq28 zq28 zq28 zq20 rfl rfl (ZPure0.pure (zp_mask (p := 2) 1 rfl rfl rfl rfl (by decide) (by decide) (by decide))) ?_
    refine zc_take0 (i := 11) rfl zq28 zq28 zq28 zq28 zq20 rfl rfl (ZPure0.pure (zp_add rfl rfl rfl zq21)) ?_
    refine zc_take0 (i := 12) rfl zq28 zq28 zq28 zq28 zq20 rfl rfl zq14 ?_
    refine zc_take0 (i := 13) rfl zq28 zq28 zq28 zq28 zq20 rfl rfl (zp_load_ref rfl zq25 rfl rfl) ?_
    refine zc_take0 (i := 14) rfl zq28 zq28 zq28 zq28 zq20 rfl rfl (ZPure0.pure (zp_mask (p := 2) 1 rfl rfl rfl rfl (by decide) (by decide) (by decide))) ?_
    refine zc_take0 (i := 15) rfl zq28 zq28 zq28 zq28 zq20 rfl rfl (ZPure0.pure (zp_add rfl rfl rfl zq21)) ?_
    refine zc_take0 (i := 16) rfl zq28 zq28 zq28 zq28 zq20 rfl rfl zq14 ?_
    refine zc_take0 (i := 17) rfl zq28 zq28 zq28 zq28 zq20 rfl rfl (zp_load_ref rfl zq25 rfl rfl) ?_
    refine zc_take0 (i := 18) rfl zq28 zq28 zq28 zq28 zq20 rfl rfl (ZPure0.pure (zp_mask (p := 4) 2 rfl rfl rfl rfl (by decide) (by decide) (by decide))) ?_
    refine zc_take0 (i := 19) rfl zq28 zq28 zq28 zq28 zq20 rfl rfl (ZPure0.pure (zp_add rfl rfl rfl zq21)) ?_
    refine zc_take0 (i := 20) rfl zq28 zq28 zq28 zq28 zq20 rfl rfl zq14 ?_
    refine zc_take0 (i := 21) rfl zq28 zq28 zq28 zq28 zq20 rfl rfl (zp_load_ref rfl zq25 rfl rfl) ?_
    refine zc_take0 (i := 22) rfl zq28 zq28 zq28 zq28 zq20 rfl rfl (ZPure0.pure (zp_mask (p := 8) 3 rfl rfl rfl rfl (by decide) (by decide) (by decide))) ?_
    refine zc_take0 (i := 23) rfl zq28 zq28 zq28 zq28 zq20 rfl rfl (ZPure0.pure (zp_add rfl rfl rfl zq21)) ?_
    refine zc_take0 (i := 24) rfl zq28 zq28 zq28 zq28 zq20 rfl rfl zq14 ?_
    refine zc_take0 (i := 25) rfl zq28 zq28 zq28 zq28 zq20 rfl rfl (zp_load_ref rfl zq25 rfl rfl) ?_
    refine zc_take0 (i := 26) rfl zq28 zq28 zq28 zq28 zq20 rfl rfl (ZPure0.pure (zp_mask (p := 2) 1 rfl rfl rfl rfl (by decide) (by decide) (by decide))) ?_
    refine zc_take0 (i := 27) rfl zq28 zq28 zq28 zq28 zq20 rfl rfl (ZPure0.pure (zp_add rfl rfl rfl zq21)) ?_
    refine zc_take0 (i := 29) rfl zq28 zq28 zq28 zq28 zq20 rfl rfl zq14 ?_
    refine zc_take0 (i := 30) rfl zq28 zq28 zq28 zq28 zq20 rfl rfl (zp_load_ref rfl zq25 rfl rfl) ?_
    refine zc_take0 (i := 31) rfl zq28 zq28 zq28 zq28 zq20 rfl rfl (ZPure0.pure (zp_shrI (p := 16) rfl rfl (by decide) rfl (by decide))) ?_
    refine zc_take0 (i := 32) rfl zq28 zq28 zq28 zq28 zq20 rfl rfl (ZPure0.pure (zp_mask (p := 4) 2 rfl rfl rfl rfl (by decide) (by decide) (by decide))) ?_
    skip
    refine zc_all2 (i := 28) (j := 36) (fun _ => by first | assumption | (repeat (first | exact BOwn.nil _ | refine BOwn.cons zq5 ?_))) zq28 ?_ ?_
    · refine zoneC_op (i := 28) (fun _ => by first | assumption | (repeat (first | exact BOwn.nil _ | refine BOwn.cons zq5 ?_))) rfl zq20 ?_
      refine ZVal.op rfl (by decide) (zv_litR (xs := [.const (.float .f64 4607182418800017408), .const (.float .f64 4602678819172646912), .const (.float .f64 4604930618986332160), .const (.float .f64 4603579539098121011)]) _ rfl rfl rfl zq26 zq24 zq22 zq23 (by decide) ?_)
      refine zc_take0 (i := 33) rfl zq28 zq28 zq28 zq28 zq20 rfl rfl zq0 ?_
      refine zc_take0 (i := 34) rfl zq28 zq28 zq28 zq28 zq20 rfl rfl (zp_load_ref rfl zq25 rfl rfl) ?_
      refine zc_take0 (i := 35) rfl zq28 zq28 zq28 zq28 zq20 rfl rfl (ZPure0.pure (zp_build (xs := [(0, .tmp 7), (1, .tmp 11), (2, .tmp 15), (3, .tmp 19), (6, .tmp 23), (7, .tmp 27), (8, .tmp 31), (9, .tmp 38)]) rfl (el_of rfl) (st_of rfl) rfl zq1)) ?_
      refine zc_one_val (i := 36) (fun _ => by first | assumption | (repeat (first | exact BOwn.nil _ | refine BOwn.cons zq5 ?_))) zq28 rfl zq20 rfl rfl (zv_salloc rfl zq24 zq23 zq27 fun a3 sS hS => ?_)
      refine zc_one (i := 37) (fun _ => by first | assumption | (repeat (first | exact BOwn.nil _ | refine BOwn.cons zq5 ?_))) zq28 rfl zq20 (zop_sstore (i := 0) rfl rfl rfl rfl zq25 zq27 rfl (by first | exact rfl | simp [cells_orow]) zq16 (by first | exact Nat.le_of_ble_eq_true rfl | omega | simp [cellsD, msgD, nodeD, pairD, cfgD]) zq4 fun sS hS => ?_)
      (try simp only [List.set_cons_zero, List.set_cons_succ] at hS)
      refine zc_end (fun hcl_ => absurd hcl_ (by decide)) zq28 ?_
      exact ⟨_, ⟨_, rfl, hS⟩, zq17, zq17⟩
    · refine zoneC_op (i := 36) (fun _ => by first | assumption | (repeat (first | exact BOwn.nil _ | refine BOwn.cons zq5 ?_))) rfl zq20 ?_
      refine ZVal.op rfl (by decide) (zv_salloc rfl zq24 zq23 hS fun a3 sS hS => ?_)
      refine zc_one_val (i := 28) (fun _ => by first | assumption | (repeat (first | exact BOwn.nil _ | refine BOwn.cons zq5 ?_))) zq28 rfl zq20 rfl rfl (zv_litR (xs := [.const (.float FloatKind.f64 4607182418800017408), .const (.float FloatKind.f64 4602678819172646912), .const (.float FloatKind.f64 4604930618986332160), .const (.float FloatKind.f64 4603579539098121011)]) _ rfl rfl rfl zq26 zq24 zq22 zq12 (by decide) ?_)
      refine zc_take0 (i := 33) rfl zq28 zq28 zq28 zq28 zq20 rfl rfl zq0 ?_
      refine zc_take0 (i := 34) rfl zq28 zq28 zq28 zq28 zq20 rfl rfl (zp_load_ref rfl zq25 rfl rfl) ?_
      refine zc_take0 (i := 35) rfl zq28 zq28 zq28 zq28 zq20 rfl rfl (ZPure0.pure (zp_build (xs := [(0, .tmp 7), (1, .tmp 11), (2, .tmp 15), (3, .tmp 19), (6, .tmp 23), (7, .tmp 27), (8, .tmp 31), (9, .tmp 38)]) rfl (el_of rfl) (st_of rfl) rfl zq1)) ?_
      refine zc_one (i := 37) (fun _ => by first | assumption | (repeat (first | exact BOwn.nil _ | refine BOwn.cons zq5 ?_))) zq28 rfl zq20 (zop_sstore (i := 0) rfl rfl rfl rfl zq25 zq27 rfl (by first | exact rfl | simp [cells_orow]) zq16 (by first | exact Nat.le_of_ble_eq_true rfl | omega | simp [cellsD, msgD, nodeD, pairD, cfgD]) zq4 fun sS hS => ?_)
      (try simp only [List.set_cons_zero, List.set_cons_succ] at hS)
      refine zc_end (fun hcl_ => absurd hcl_ (by decide)) zq28 ?_
      exact ⟨_, ⟨_, rfl, hS⟩, zq17, zq17⟩
  rintro e s ⟨a3, rfl, hS⟩
  (repeat (first | ((with_reducible apply zr_seq))))
  refine zc_begin (m := 20) ([(a3, [D.v (Value.int IntKind.i64 (c.keyMax % 2 + 1)), D.v (Value.int IntKind.i64 (c.valMax % 2 + 8)), D.v (Value.int IntKind.i64 (c.c % 2 + 1)), D.v (Value.int IntKind.i64 (c.f % 2 + 3)), D.v (Value.int IntKind.i64 0), D.v (Value.int IntKind.i64 0), D.v (Value.int IntKind.i64 (c.e % 4 + 1)), D.v (Value.int IntKind.i64 (c.maxKeys % 8 + 1)), D.v (Value.int IntKind.i64 (c.z % 2 + 1)), D.v (Value.float FloatKind.f64 fl)])]) [17, 19] zq28 rfl ?_
  refine zc_take0 (i := 0) rfl zq28 zq28 zq28 zq28 zq20 rfl rfl zq14 ?_
  refine zc_take (i := 1) rfl zq28 zq28 zq28 zq28 zq28 zq28 zq20 rfl rfl (zpb_load rfl zq25 rfl (.head _) rfl (by first | exact rfl | exact exact_orow _ _ _)) ?_
  refine zc_take0 (i := 2) rfl zq28 zq28 zq28 zq28 zq20 rfl rfl zq14 ?_
  refine zc_take (i := 3) rfl zq28 zq28 zq28 zq28 zq28 zq28 zq20 rfl rfl (zpb_load rfl zq25 rfl (.head _) rfl (by first | exact rfl | exact exact_orow _ _ _)) ?_
  refine zc_take0 (i := 5) rfl zq28 zq28 zq28 zq28 zq20 rfl rfl zq14 ?_
  refine zc_take0 (i := 6) rfl zq28 zq28 zq28 zq28 zq20 rfl rfl (zp_load_ref rfl zq25 rfl rfl) ?_
  refine zc_take0 (i := 7) rfl zq28 zq28 zq28 zq28 zq20 rfl rfl (ZPure0.pure (zp_mask (p := 2) 1 rfl rfl rfl rfl (by decide) (by decide) (by decide))) ?_
  refine zc_take0 (i := 9) rfl zq28 zq28 zq28 zq28 zq20 rfl rfl zq14 ?_
  refine zc_take (i := 10) rfl zq28 zq28 zq28 zq28 zq28 zq28 zq20 rfl rfl (zpb_load rfl zq25 rfl (.head _) rfl (by first | exact rfl | exact exact_orow _ _ _)) ?_
  refine zc_take0 (i := 11) rfl zq28 zq28 zq28 zq28 zq20 rfl rfl (ZPure0.pure (zp_add rfl rfl rfl zq21)) ?_
  refine zc_take0 (i := 12) rfl zq28 zq28 zq28 zq28 zq20 rfl rfl zq14 ?_
  refine zc_take0 (i := 13) rfl zq28 zq28 zq28 zq28 zq20 rfl rfl (zp_load_ref rfl zq25 rfl rfl) ?_
  refine zc_take0 (i := 14) rfl zq28 zq28 zq28 zq28 zq20 rfl rfl (ZPure0.pure (zp_mask (p := 2) 1 rfl rfl rfl rfl (by decide) (by decide) (by decide))) ?_
  refine zc_take0 (i := 15) rfl zq28 zq28 zq28 zq28 zq20 rfl rfl (ZPure0.pure (zp_add rfl rfl rfl zq21)) ?_
  skip
  refine zc_take0 (i := 4) rfl zq28 zq28 zq28 zq28 zq20 rfl rfl (ZPure0.pure (zp_mul rfl rfl rfl hw1)) ?_
  refine zc_take0 (i := 8) rfl zq28 zq28 zq28 zq28 zq20 rfl rfl (ZPure0.pure (zp_add rfl rfl rfl zq21)) ?_
  refine zc_take0 (i := 16) rfl zq28 zq28 zq28 zq28 zq20 rfl rfl zq14 ?_
  refine zc_one (i := 17) (fun _ => by first | assumption | (repeat (first | exact BOwn.nil _ | refine BOwn.cons zq5 ?_))) zq28 rfl zq20 (zop_sstore (i := 0) rfl rfl rfl rfl zq25 zq27 rfl (by first | exact rfl | simp [cells_orow]) zq16 (by first | exact Nat.le_of_ble_eq_true rfl | omega | simp [cellsD, msgD, nodeD, pairD, cfgD]) zq4 fun sS hS => ?_)
  (try simp only [List.set_cons_zero, List.set_cons_succ] at hS)
  refine zc_take0 (i := 18) rfl zq28 zq28 zq28 zq28 zq20 rfl rfl zq14 ?_
  refine zc_one (i := 19) (fun hcl_ => absurd hcl_ (by decide)) zq28 rfl zq20 (zop_sstore (i := 0) rfl rfl rfl rfl zq25 zq27 rfl (by first | exact rfl | simp [cells_orow]) zq16 (by first | exact Nat.le_of_ble_eq_true rfl | omega | simp [cellsD, msgD, nodeD, pairD, cfgD]) zq4 fun sS hS => ?_)
  (try simp only [List.set_cons_zero, List.set_cons_succ] at hS)
  refine zc_end (fun hcl_ => absurd hcl_ (by decide)) zq28 ?_
  (repeat (first | ((with_reducible apply (zs_sstore (i := 1))); (exact rfl); (exact rfl); (exact sh_of rfl); (assumption); (exact rfl); (first | exact rfl | (simp [cells_orow])); ((try rw [cells_orow]); (repeat (first | exact one_nil | (apply one_cons; (first | exact rfl | exact one_orow _ _ _))))); (first | exact Nat.le_of_ble_eq_true rfl | omega | (focus (simp [cellsD, msgD, nodeD, pairD, cfgD]; done))); (first | (simp only [cells_orow, cD_int, cD_bool, cD_float, cD_nil, cD_ptr0, cD_str, cD_row, cD_mrow, cD_ptr, cD_ref, cD_fn, cD_agg, List.take_zero, List.take_succ_cons, List.take_nil, List.drop_succ_cons, List.drop_zero, List.drop_nil, List.nil_append, List.cons_append, List.append_nil, Nat.zero_add, Nat.reduceAdd]; exact rfl) | exact rfl); (intro sS hS); (try simp only [List.set_cons_zero, List.set_cons_succ] at hS)) | ((with_reducible apply zr_seq)) | ((with_reducible apply zr_region); (try simp only [List.append_eq, List.cons_append, List.nil_append])) | ((with_reducible apply zo_end)) | ((with_reducible apply zs_load_ptrA); (exact rfl); (exact rfl); (exact sh_of rfl); (first | assumption | exact St.setH_self _ _ _ | exact Sep.at_ (i := 0) zq27 rfl | exact Sep.at_ (i := 1) zq27 rfl | exact Sep.at_ (i := 2) zq27 rfl | exact Sep.at_ (i := 3) zq27 rfl | exact Sep.at_ (i := 4) zq27 rfl | exact Sep.at_ (i := 5) zq27 rfl | exact Sep.at_ (i := 6) zq27 rfl); (first | exact Nat.le_of_ble_eq_true rfl | exact (by decide) | (focus (simp [cellsD]; done))); (first | (simp only [cells_orow, cD_int, cD_bool, cD_float, cD_nil, cD_ptr0, cD_str, cD_row, cD_mrow, cD_ptr, cD_ref, cD_fn, cD_agg, List.take_zero, List.take_succ_cons, List.take_nil, List.drop_succ_cons, List.drop_zero, List.drop_nil, List.nil_append, List.cons_append, List.append_nil, Nat.zero_add, Nat.reduceAdd]; exact rfl) | exact rfl)) | ((with_reducible apply zr_retZ); (exact rfl); (repeat (first | exact resD_nil _ _ _ | ((with_reducible apply resD_tmp); (exact rfl)) | ((with_reducible apply resD_cell_agg); (exact rfl); (exact sh_of rfl); (first | assumption | exact St.setH_self _ _ _ | exact Sep.at_ (i := 0) zq27 rfl | exact Sep.at_ (i := 1) zq27 rfl | exact Sep.at_ (i := 2) zq27 rfl | exact Sep.at_ (i := 3) zq27 rfl | exact Sep.at_ (i := 4) zq27 rfl | exact Sep.at_ (i := 5) zq27 rfl | exact Sep.at_ (i := 6) zq27 rfl); (exact rfl)) | ((with_reducible apply resD_cell); (exact rfl); (exact sh_of rfl); (first | assumption | exact St.setH_self _ _ _ | exact Sep.at_ (i := 0) zq27 rfl | exact Sep.at_ (i := 1) zq27 rfl | exact Sep.at_ (i := 2) zq27 rfl | exact Sep.at_ (i := 3) zq27 rfl | exact Sep.at_ (i := 4) zq27 rfl | exact Sep.at_ (i := 5) zq27 rfl | exact Sep.at_ (i := 6) zq27 rfl); (exact rfl)))); (simp only [resOf]))))
  exact KE.mk st hS.ext (hK _ ⟨⟨_, _, _, _, _, _, _, _, _, _⟩, rfl, by constructor <;> simp only <;> omega⟩)
end Go.Proofs.ZtLe
namespace Go.Proofs.ZtLe
open Go.RowKit Go.Proofs Go.Proofs.Zm
set_option linter.unusedVariables false
set_option linter.unusedSimpArgs false
set_option maxHeartbeats 20000000
set_option maxRecDepth 100000
attribute [local irreducible] ZWp ZOps ZPure ZPure0 ZVal ZOp SoundF

/-! ### dumbwaiterlaw18.Message -/
structure MsgS (c : CfgV) (v : Bs) (m : MsgV) : Prop where
  kind : 0 ≤ m.1 ∧ m.1 ≤ 3
  key : m.2.1.length ≤ 2 ∧ (m.2.1.length : Int) ≤ c.keyMax
  none : m.1 = 0 → m.2.1 = [] ∧ m.2.2 = []
  put : m.1 = 1 → (m.2.2.length : Int) ≤ c.valMax ∨ m.2.2.length = 8
  del : m.1 = 2 → m.2.2 = []
  add : m.1 = 3 → m.2.2.length = 8
  val : m.2.2.length ≤ v.length ∨ m.2.2.length = 8 ∨ m.2.2.length = 0
def msgSpec : ZSpec := fun args st K => ∃ (c : CfgV) (n : Int) (v : Bs) (tv : Nat), args = [.agg (cfgD c), .v (.int .i64 n), .row (bytesD v) 1 tv] ∧ 0 ≤ c.keyMax ∧ c.keyMax ≤ 4611686018427387904 ∧ 0 ≤ c.valMax ∧ c.valMax ≤ 4611686018427387904 ∧ v.length ≤ 2147483648 ∧
  ∀ d m, MsgS c v m → DLe d (.agg (msgD m)) → K d st
end Go.Proofs.ZtLe
namespace Go.Proofs.ZtLe
open Go.RowKit Go.Proofs Go.Proofs.Zm
set_option linter.unusedVariables false
set_option linter.unusedSimpArgs false
set_option maxHeartbeats 20000000
set_option maxRecDepth 100000
attribute [local irreducible] ZWp ZOps ZPure ZPure0 ZVal ZOp SoundF

/-! ### dumbwaiterlaw18.Node, of an odd number of numbers -/
def kidsN (N j : Nat) : List Int := (List.range j).map fun (i : Nat) => (i : Int) * 7 + N + 1
theorem kidsN_succ (N j : Nat) : kidsN N (j + 1) = kidsN N j ++ [(j : Int) * 7 + N + 1] := by unfold kidsN; rw [List.range_succ, List.map_append]; rfl
theorem kidsN_length (N j : Nat) : (kidsN N j).length = j := by simp [kidsN]
structure InnerV (c : CfgV) (N : Nat) (n : NodeV) : Prop where
  leaf : n.leaf = false
  srt : Srt n.keys
  klen : (n.keys.length : Int) ≤ c.f - 1
  kb : ∀ k ∈ n.keys, k.length ≤ 3 ∧ (k.length : Int) ≤ c.keyMax
  vals : n.vals = []
  kids : n.kids = kidsN N (n.keys.length + 1)
  mlen : (n.msgs.length : Int) ≤ c.m
  msg : ∀ m ∈ n.msgs, m.1 ≠ 0 ∧ ∃ v : Bs, v.length = 2 ∧ MsgS c v m
structure NodeC (c : CfgV) : Prop where
  key : 0 ≤ c.keyMax ∧ c.keyMax ≤ 1000000
  val : 0 ≤ c.valMax ∧ c.valMax ≤ 1000000
  f : 1 ≤ c.f ∧ c.f ≤ 1000000
  m : 0 ≤ c.m ∧ c.m ≤ 1000000
def nodeSpec : ZSpec := fun args st K => ∃ (c : CfgV) (l : List Int) (tl : Nat), args = [.agg (cfgD c), .row (intR l) 1 tl] ∧ l.length % 2 = 1 ∧ l.length ≤ 140737488355328 ∧ NodeC c ∧
  ∀ n, InnerV c l.length n → ∀ o4 c4 f4 o3 c3 f3 st', Sep st st' [(o3, f3), (o4, f4)] → GRow o4 f4 1 n.kids.length c4 (intR n.kids).flatten → GRow o3 f3 3 n.msgs.length c3 (msgR n.msgs).flatten →
    K (.agg [.v (.bool false), .row (rowR n.keys) 1 0, .v (.slice none 0 0), orow o4 n.kids.length c4, orow o3 n.msgs.length c3]) st'
end Go.Proofs.ZtLe
namespace Go.Proofs.ZtLe
open Go.RowKit Go.Proofs Go.Proofs.Zm
set_option linter.unusedVariables false
set_option linter.unusedSimpArgs false
set_option maxHeartbeats 20000000
set_option maxRecDepth 100000
attribute [local irreducible] ZWp ZOps ZPure ZPure0 ZVal ZOp SoundF

/-! ### dumbwaiterlaw22.Inner -/
/-- What is told of such a node. -/
structure InnerN (c : CfgV) (n : NodeV) : Prop where
  leaf : n.leaf = false
  srt : Srt n.keys
  klen : (n.keys.length : Int) ≤ c.f + 1
  kb : ∀ k ∈ n.keys, k.length ≤ 2
  vals : n.vals = []
  kids : n.kids.length = n.keys.length + 1
  mlen : (n.msgs.length : Int) ≤ c.m + c.c
  msg : ∀ m ∈ n.msgs, m.1 ≠ 0 ∧ m.2.1.length ≤ 2 ∧ m.2.2.length ≤ 8
end Go.Proofs.ZtLe
namespace Go.Proofs.ZtLe
open Go.RowKit Go.Proofs Go.Proofs.Zm
set_option linter.unusedVariables false
set_option linter.unusedSimpArgs false
set_option maxHeartbeats 20000000
set_option maxRecDepth 100000
attribute [local irreducible] ZWp ZOps ZPure ZPure0 ZVal ZOp SoundF

/-! ### plain laws of ways, of a node with a kid more, of what is taken -/
theorem lt_snoc : ∀ (a : Bs) (x : UInt8), lt a (a ++ [x]) = true
  | [], x => rfl
  | c :: a, x => by
    rw [List.cons_append, lt_cons, lt_snoc a x]; simp
section
variable {l : List Bs} {k : Nat}
theorem srt_ins (hs : Srt l) (hk : k ≤ l.length) {p : Bs} (h1 : ∀ i (h : i < l.length), i < k → lt l[i] p = true) (h2 : ∀ i (h : i < l.length), k ≤ i → lt p l[i] = true) : Srt (insAt l k p) := by
  unfold insAt Srt
  have hs' : Srt (l.take k ++ l.drop k) := by rw [List.take_append_drop]; exact hs
  obtain ⟨a1, a2, a3⟩ := List.pairwise_append.1 hs'
  refine List.pairwise_append.2 ⟨List.pairwise_append.2 ⟨a1, List.pairwise_singleton _ _, fun a ha b hb => ?_⟩, a2, fun a ha b hb => ?_⟩
  · simp only [List.mem_singleton] at hb; subst hb
    obtain ⟨i, hi, rfl⟩ := List.mem_iff_getElem.1 ha
    rw [List.length_take] at hi
    rw [List.getElem_take]
    exact h1 i (by omega) (by omega)
  · rcases List.mem_append.1 ha with ha | ha
    · exact a3 a ha b hb
    · simp only [List.mem_singleton] at ha; subst ha
      obtain ⟨i, hi, rfl⟩ := List.mem_iff_getElem.1 hb
      rw [List.length_drop] at hi
      rw [List.getElem_drop]
      exact h2 (k + i) (by omega) (by omega)
end
theorem mine_take (keys : List Bs) (k most : Nat) (l : List MsgV) : (mineL keys k most l).1 = (l.filter fun m => wayL keys m.2.1 == k).take most := by
  induction l using rev_ind with
  | h0 => simp [mineL]
  | h1 l m ih =>
    rw [mineL_app, List.filter_append, ih, List.length_take]
    by_cases hw : wayL keys m.2.1 = k
    · simp only [hw, and_true, List.filter_cons, beq_self_eq_true, if_true, List.filter_nil]
      split
      · rename_i hh
        simp only
        rw [List.take_of_length_le (by omega), List.take_of_length_le (by simp; omega)]
      · rename_i hh
        simp only
        rw [List.take_append_of_le_length (by omega)]
    · simp [hw, List.filter_cons]
end Go.Proofs.ZtLe
namespace Go.Proofs.ZtLe
open Go.RowKit Go.Proofs Go.Proofs.Zm
set_option linter.unusedVariables false
set_option linter.unusedSimpArgs false
set_option maxHeartbeats 20000000
set_option maxRecDepth 100000
attribute [local irreducible] ZWp ZOps ZPure ZPure0 ZVal ZOp SoundF

/-! ### mesg.Apply -/
def applyL (p : List PairV) (l : List MsgV) : List PairV := l.foldl oneL p
theorem applyL_snoc (p : List PairV) (l : List MsgV) (m : MsgV) : applyL p (l ++ [m]) = oneL (applyL p l) m := by unfold applyL; rw [List.foldl_append]; rfl
theorem keysP_append (a b : List PairV) : keysP (a ++ b) = keysP a ++ keysP b := by simp [keysP]
theorem keysP_take (a : List PairV) (i : Nat) : keysP (a.take i) = (keysP a).take i := by simp [keysP, List.map_take]
theorem keysP_drop (a : List PairV) (i : Nat) : keysP (a.drop i) = (keysP a).drop i := by simp [keysP, List.map_drop]
theorem oneL_srt {ps : List PairV} {m : MsgV} (hs : Srt (keysP ps)) : Srt (keysP (oneL ps m)) := by
  have hcl := cnt_le (keysP ps) m.2.1
  unfold oneL
  simp only
  split
  · rename_i hth
    obtain ⟨v, hv⟩ := thereP_get hth
    split
    · have : keysP (ps.set (cnt (keysP ps) m.2.1) (m.2.1, (foldM (wasP ps m.2.1) (thereP ps m.2.1) [m]).1)) = keysP ps := by
        unfold keysP
        rw [List.map_set]
        apply List.ext_getElem?
        intro j
        rw [List.getElem?_set]
        split
        · rename_i hj
          subst hj
          rw [List.getElem?_map]
          unfold keysP at hv
          rw [hv]
          split
          · rfl
          · rename_i hh
            have := (List.getElem?_eq_some_iff.1 hv).1
            simp at hh; omega
        · rfl
      rw [this]; exact hs
    · rw [keysP_append, keysP_take, keysP_drop]
      have h1 : ((keysP ps).take (cnt (keysP ps) m.2.1) ++ (keysP ps).drop (cnt (keysP ps) m.2.1 + 1)).Sublist (keysP ps) := by
        have : (keysP ps).take (cnt (keysP ps) m.2.1) ++ (keysP ps).drop (cnt (keysP ps) m.2.1 + 1) = (keysP ps).eraseIdx (cnt (keysP ps) m.2.1) := (List.eraseIdx_eq_take_drop_succ _ _).symm
        rw [this]; exact List.eraseIdx_sublist _ _
      exact List.Pairwise.sublist h1 hs
  · rename_i hth
    split
    · have e : keysP (ps.take (cnt (keysP ps) m.2.1) ++ (m.2.1, (foldM (wasP ps m.2.1) (thereP ps m.2.1) [m]).1) :: ps.drop (cnt (keysP ps) m.2.1)) = insAt (keysP ps) (cnt (keysP ps) m.2.1) m.2.1 := by
        unfold insAt; simp [keysP, List.map_take, List.map_drop]
      rw [e]
      refine srt_ins hs hcl (fun j hj hji => (cnt_iff hs m.2.1 hj).2 hji) fun j hj hji => ?_
      have hnk : ¬ (keysP ps)[cnt (keysP ps) m.2.1]? = some m.2.1 := fun h => hth (by unfold thereP; exact decide_eq_true h)
      have hc : cnt (keysP ps) m.2.1 < (keysP ps).length := by omega
      have h0 : lt m.2.1 ((keysP ps)[cnt (keysP ps) m.2.1]) = true := by
        have h1 : ¬ lt ((keysP ps)[cnt (keysP ps) m.2.1]) m.2.1 = true := fun h => by have := (cnt_iff hs m.2.1 hc).1 h; omega
        rcases lt_le (by simpa using h1) with h | h
        · exact absurd (by rw [List.getElem?_eq_getElem hc, h]) hnk
        · exact h
      rcases Nat.lt_or_ge (cnt (keysP ps) m.2.1) j with q | q
      · exact lt_trans h0 (hs.get q hj)
      · have e : j = cnt (keysP ps) m.2.1 := by omega
        subst e; exact h0
    · exact hs
def applyOwn : ZSpec := fun args st K => ∃ (p : List PairV) (l : List MsgV) (tp tl : Nat), args = [.row (pairR p) 2 tp, .row (msgR l) 3 tl] ∧ p.length ≤ 1000000 ∧ l.length ≤ 1000000 ∧ Srt (keysP p) ∧ (∀ q ∈ p, PB q) ∧ (∀ m ∈ l, MB m) ∧
  ∀ o c f st', Sep st st' [(o, f)] → GRow o f 2 (applyL p l).length c (pairR (applyL p l)).flatten → K (orow o (applyL p l).length c) st'
end Go.Proofs.ZtLe
namespace Go.Proofs.ZtLe
open Go.RowKit Go.Proofs Go.Proofs.Zm
set_option linter.unusedVariables false
set_option linter.unusedSimpArgs false
set_option maxHeartbeats 20000000
set_option maxRecDepth 100000
attribute [local irreducible] ZWp ZOps ZPure ZPure0 ZVal ZOp SoundF

/-! ### dumbwaiterref18: Find, SamePairs, Set -/
def findL (p : List PairV) (k : Bs) : Bs × Bool := match p.find? (fun x => x.1 == k) with
  | some x => (x.2, true)
  | none => ([], false)
theorem find_take {p : List PairV} {k : Bs} {i : Nat} (h : ∀ j (hj : j < p.length), j < i → (p[j].1 == k) = false) : (p.take i).find? (fun x => x.1 == k) = none := by
  rw [List.find?_eq_none]
  intro x hx
  obtain ⟨j, hj, rfl⟩ := List.mem_iff_getElem.1 hx
  rw [List.length_take] at hj
  rw [List.getElem_take, h j (by omega) (by omega)]; simp
/-! ### dumbwaiterref18.Set -/
def stepS (k v : Bs) (there : Bool) (s : Bool × List PairV) (x : PairV) : Bool × List PairV :=
  if (x.1 == k) = true then (if there = true then (true, (if (!s.1 && lt k x.1) = true then s.2 ++ [(k, v)] else s.2) ++ [(k, v)]) else (if (!s.1 && lt k x.1) = true then (true, s.2 ++ [(k, v)]) else s))
  else (s.1 || lt k x.1, (if (!s.1 && lt k x.1) = true then s.2 ++ [(k, v)] else s.2) ++ [x])
def setTo (k v : Bs) (there : Bool) (p : List PairV) : Bool × List PairV := p.foldl (stepS k v there) (!there, [])
def setL (p : List PairV) (k v : Bs) (there : Bool) : List PairV := if (setTo k v there p).1 = true then (setTo k v there p).2 else (setTo k v there p).2 ++ [(k, v)]
theorem setTo_snoc (k v : Bs) (there : Bool) (p : List PairV) (x : PairV) : setTo k v there (p ++ [x]) = stepS k v there (setTo k v there p) x := by unfold setTo; rw [List.foldl_append]; rfl
end Go.Proofs.ZtLe
namespace Go.Proofs.ZtLe
open Go.RowKit Go.Proofs Go.Proofs.Zm
set_option linter.unusedVariables false
set_option linter.unusedSimpArgs false
set_option maxHeartbeats 20000000
set_option maxRecDepth 100000
attribute [local irreducible] ZWp ZOps ZPure ZPure0 ZVal ZOp SoundF

/-! ### plain laws: pairs are told by what is found -/
theorem findL_nil (k : Bs) : findL [] k = ([], false) := rfl
theorem findL_cons (x : PairV) (p : List PairV) (k : Bs) : findL (x :: p) k = if (x.1 == k) = true then (x.2, true) else findL p k := by
  unfold findL
  rw [List.find?_cons]
  cases (x.1 == k) <;> rfl
theorem findL_none {p : List PairV} {k : Bs} (h : ∀ x ∈ p, x.1 ≠ k) : findL p k = ([], false) := by
  induction p with
  | nil => rfl
  | cons x p ih =>
    rw [findL_cons, if_neg (by simpa using h x (by simp)), ih (fun y hy => h y (by simp [hy]))]
theorem findL_append {p q : List PairV} {k : Bs} (h : ∀ x ∈ p, x.1 ≠ k) : findL (p ++ q) k = findL q k := by
  induction p with
  | nil => rfl
  | cons x p ih =>
    rw [List.cons_append, findL_cons, if_neg (by simpa using h x (by simp)), ih (fun y hy => h y (by simp [hy]))]
theorem findL_app2 (p q r : List PairV) (k : Bs) (h : findL q k = findL r k) : findL (p ++ q) k = findL (p ++ r) k := by
  induction p with
  | nil => exact h
  | cons x p ih => rw [List.cons_append, List.cons_append, findL_cons, findL_cons, ih]
theorem findL_false {p : List PairV} {k : Bs} (h : (findL p k).2 = false) : (findL p k).1 = [] := by
  induction p with
  | nil => rfl
  | cons x p ih =>
    rw [findL_cons] at h ⊢
    split at h
    · cases h
    · rename_i hx; rw [if_neg hx]; exact ih h
theorem keysP_get {p : List PairV} {i : Nat} (h : i < p.length) : (keysP p)[i]'(by rw [keysP_length]; exact h) = p[i].1 := by simp [keysP]
theorem take_lt {p : List PairV} {k : Bs} (hs : Srt (keysP p)) : ∀ x ∈ p.take (cnt (keysP p) k), x.1 ≠ k := by
  intro x hx
  obtain ⟨j, hj, rfl⟩ := List.mem_iff_getElem.1 hx
  rw [List.length_take] at hj
  have h1 := (cnt_iff hs k (i := j) (by rw [keysP_length]; omega)).2 (by omega)
  rw [List.getElem_take]
  rw [keysP_get (by omega)] at h1
  exact lt_ne h1
theorem drop_gt {p : List PairV} {k : Bs} (hs : Srt (keysP p)) (ht : thereP p k = true) : ∀ x ∈ p.drop (cnt (keysP p) k + 1), x.1 ≠ k := by
  intro x hx
  obtain ⟨v, hv⟩ := thereP_get ht
  obtain ⟨hi, hv⟩ := List.getElem?_eq_some_iff.1 hv
  obtain ⟨j, hj, rfl⟩ := List.mem_iff_getElem.1 hx
  rw [List.length_drop] at hj
  have h1 := hs.get (i := cnt (keysP p) k) (j := cnt (keysP p) k + 1 + j) (by omega) (by rw [keysP_length]; omega)
  rw [List.getElem_drop]
  rw [keysP_get hi, keysP_get (by omega), hv] at h1
  exact fun e => lt_ne h1 e.symm
theorem drop_ge {p : List PairV} {k : Bs} (hs : Srt (keysP p)) (ht : thereP p k = false) : ∀ x ∈ p.drop (cnt (keysP p) k), x.1 ≠ k := by
  intro x hx e
  obtain ⟨j, hj, rfl⟩ := List.mem_iff_getElem.1 hx
  rw [List.length_drop] at hj
  rw [List.getElem_drop] at e
  rcases Nat.eq_zero_or_pos j with h0 | h0
  · subst h0
    have : thereP p k = true := by
      unfold thereP
      rw [decide_eq_true_eq, List.getElem?_eq_some_iff]
      exact ⟨by rw [keysP_length]; omega, (keysP_get (by omega)).trans e⟩
    rw [this] at ht; cases ht
  · have h1 := hs.get (i := cnt (keysP p) k) (j := cnt (keysP p) k + j) (by omega) (by rw [keysP_length]; omega)
    rw [keysP_get (i := cnt (keysP p) k + j) (by omega), e] at h1
    have := (cnt_iff hs k (i := cnt (keysP p) k) (by rw [keysP_length]; omega)).1 h1
    omega
theorem there_find {p : List PairV} {k : Bs} (hs : Srt (keysP p)) : findL p k = (wasP p k, thereP p k) := by
  have e : p = p.take (cnt (keysP p) k) ++ p.drop (cnt (keysP p) k) := (List.take_append_drop _ _).symm
  cases ht : thereP p k with
  | false =>
    have : findL p k = findL (p.take (cnt (keysP p) k) ++ p.drop (cnt (keysP p) k)) k := by rw [← e]
    rw [this, findL_append (take_lt hs), findL_none (drop_ge hs ht)]
    unfold wasP
    rw [ht]; rfl
  | true =>
    obtain ⟨v, hv⟩ := thereP_get ht
    obtain ⟨hi, hv'⟩ := List.getElem?_eq_some_iff.1 hv
    have : findL p k = findL (p.take (cnt (keysP p) k) ++ p.drop (cnt (keysP p) k)) k := by rw [← e]
    rw [this, findL_append (take_lt hs), List.drop_eq_getElem_cons hi, hv', findL_cons, if_pos (by simp)]
    unfold wasP
    rw [ht, if_pos rfl, List.getD_eq_getElem?_getD, hv]; rfl
theorem stepM_other {s : Bs × Bool} {m : MsgV} (h : ¬ (1 ≤ m.1 ∧ m.1 ≤ 3)) : stepM s m = s := by
  unfold stepM
  rw [if_neg (by omega), if_neg (by omega), if_neg (by omega)]
theorem foldM_eq {s : Bs × Bool} (h : s.2 = false → s.1 = []) (l : List MsgV) : foldM s.1 s.2 l = l.foldl stepM s := by
  unfold foldM
  obtain ⟨v, b⟩ := s
  cases b with
  | true => rfl
  | false => rw [if_neg (by simp), show v = [] from h rfl]
theorem foldM_find (p : List PairV) (k : Bs) (l : List MsgV) : foldM (findL p k).1 (findL p k).2 l = l.foldl stepM (findL p k) := foldM_eq findL_false l
theorem stepM_false {s : Bs × Bool} {m : MsgV} (h : s.2 = false → s.1 = []) : (stepM s m).2 = false → (stepM s m).1 = [] := by
  intro h1
  unfold stepM at h1 ⊢
  split
  · rename_i e; rw [if_pos e] at h1; cases h1
  · rename_i e
    rw [if_neg e] at h1
    split
    · rfl
    · rename_i e2
      rw [if_neg e2] at h1
      split
      · rename_i e3; rw [if_pos e3] at h1; cases h1
      · rename_i e3; rw [if_neg e3] at h1; exact h h1
/-- What is found behind a message. -/
theorem find_one {p : List PairV} (hs : Srt (keysP p)) (m : MsgV) (q : Bs) : findL (oneL p m) q = if (m.2.1 == q) = true then stepM (findL p q) m else findL p q := by
  have hf := there_find (k := m.2.1) hs
  have hstep : foldM (wasP p m.2.1) (thereP p m.2.1) [m] = stepM (findL p m.2.1) m := by
    have := foldM_find p m.2.1 [m]
    rw [hf] at this ⊢
    exact this
  have hfalse := stepM_false (m := m) (s := findL p m.2.1) findL_false
  have e : p = p.take (cnt (keysP p) m.2.1) ++ p.drop (cnt (keysP p) m.2.1) := (List.take_append_drop _ _).symm
  have hq : findL p q = findL (p.take (cnt (keysP p) m.2.1) ++ p.drop (cnt (keysP p) m.2.1)) q := by rw [← e]
  unfold oneL
  simp only [hstep]
  generalize hr : stepM (findL p m.2.1) m = r at *
  obtain ⟨w, b⟩ := r
  simp only at hfalse ⊢
  by_cases hk : m.2.1 = q
  · subst hk
    rw [if_pos (show (m.2.1 == m.2.1) = true by simp), hr]
    cases ht : thereP p m.2.1 with
    | true =>
      rw [if_pos rfl]
      obtain ⟨v, hv⟩ := thereP_get ht
      obtain ⟨hi, hv'⟩ := List.getElem?_eq_some_iff.1 hv
      cases b with
      | true =>
        rw [if_pos rfl, List.set_eq_take_append_cons_drop, if_pos hi, findL_append (take_lt hs), findL_cons, if_pos (by simp)]
      | false =>
        rw [if_neg (by simp), findL_append (take_lt hs), findL_none (drop_gt hs ht), hfalse rfl]
    | false =>
      rw [if_neg (by simp)]
      cases b with
      | true => rw [if_pos rfl, findL_append (take_lt hs), findL_cons, if_pos (by simp)]
      | false => rw [if_neg (by simp), hf, ht, hfalse rfl]; unfold wasP; rw [ht]; rfl
  · rw [if_neg (show ¬ (m.2.1 == q) = true by simpa using hk)]
    cases ht : thereP p m.2.1 with
    | true =>
      rw [if_pos rfl]
      obtain ⟨v, hv⟩ := thereP_get ht
      obtain ⟨hi, hv'⟩ := List.getElem?_eq_some_iff.1 hv
      rw [List.drop_eq_getElem_cons hi, hv'] at hq
      rw [hq]
      cases b with
      | true =>
        rw [if_pos rfl, List.set_eq_take_append_cons_drop, if_pos hi]
        refine findL_app2 _ _ _ _ ?_
        rw [findL_cons, findL_cons, if_neg (by simpa using hk), if_neg (by simpa using hk)]
      | false =>
        rw [if_neg (by simp)]
        refine findL_app2 _ _ _ _ ?_
        rw [findL_cons, if_neg (by simpa using hk)]
    | false =>
      rw [if_neg (by simp)]
      cases b with
      | true =>
        rw [if_pos rfl, hq]
        refine findL_app2 _ _ _ _ ?_
        rw [findL_cons, if_neg (by simpa using hk)]
      | false => rw [if_neg (by simp)]
/-- What is found behind messages: the key's own ones, one behind the other. -/
theorem find_apply {p : List PairV} (hs : Srt (keysP p)) (l : List MsgV) (q : Bs) : findL (applyL p l) q = (ofL q l).foldl stepM (findL p q) := by
  induction l generalizing p with
  | nil => rfl
  | cons m l ih =>
    show findL (applyL (oneL p m) l) q = _
    rw [ih (oneL_srt hs), find_one hs]
    unfold ofL
    rw [List.filter_cons]
    by_cases h : isOf q m = true
    · rw [if_pos h, List.foldl_cons]
      have : (m.2.1 == q) = true := by unfold isOf at h; simp only [Bool.and_eq_true] at h; exact h.2
      rw [if_pos this]
    · rw [if_neg h]
      by_cases hk : (m.2.1 == q) = true
      · rw [if_pos hk, stepM_other]
        intro h2
        refine h ?_
        unfold isOf
        rw [decide_eq_true h2.1, decide_eq_true h2.2, hk]; rfl
      · rw [if_neg hk]
/-! ### what Set does, plainly -/
theorem setTo_false (k v : Bs) (p : List PairV) : setTo k v false p = (true, p.filter fun x => !(x.1 == k)) := by
  refine rev_ind (p := fun p => setTo k v false p = (true, p.filter fun x => !(x.1 == k))) rfl (fun p x h => ?_) p
  rw [setTo_snoc, h, List.filter_append]
  unfold stepS
  simp only [Bool.not_true, Bool.false_and, Bool.false_eq_true, if_false, Bool.true_or]
  by_cases hx : (x.1 == k) = true
  · rw [if_pos hx]; simp [hx]
  · rw [if_neg hx]; simp [hx]
theorem setTo_true (k v : Bs) {p : List PairV} (hs : Srt (keysP p)) : setTo k v true p = if (∀ x ∈ p, lt x.1 k = true) then (false, p) else (true, (p.filter fun x => lt x.1 k) ++ (k, v) :: p.filter fun x => lt k x.1) := by
  revert hs
  refine rev_ind (p := fun p => Srt (keysP p) → setTo k v true p = if (∀ x ∈ p, lt x.1 k = true) then (false, p) else (true, (p.filter fun x => lt x.1 k) ++ (k, v) :: p.filter fun x => lt k x.1)) (fun _ => by rw [if_pos (by simp)]; rfl) (fun p x h hs => ?_) p
  rw [keysP_append] at hs
  obtain ⟨h1, _, h3⟩ := List.pairwise_append.1 hs
  have h3 : ∀ y ∈ p, lt y.1 x.1 = true := fun y hy => h3 y.1 (List.mem_map_of_mem hy) x.1 (by simp [keysP])
  rw [setTo_snoc, h h1]
  rcases lt_tri x.1 k with hx | hx | hx
  · have ha : ∀ y ∈ p, lt y.1 k = true := fun y hy => lt_trans (h3 y hy) hx
    rw [if_pos ha, if_pos (fun y hy => by rcases List.mem_append.1 hy with hy | hy; exact ha y hy; simp only [List.mem_singleton] at hy; subst hy; exact hx)]
    unfold stepS
    rw [if_neg (by simpa using lt_ne hx), lt_asymm hx]; rfl
  · subst hx
    rw [if_pos h3, if_neg (fun h => by have := h x (by simp); rw [lt_irrefl] at this; cases this)]
    unfold stepS
    have hf : p.filter (fun y => lt x.1 y.1) = [] := List.filter_eq_nil_iff.2 fun y hy => by rw [lt_asymm (h3 y hy)]; simp
    rw [if_pos (by simp), if_pos rfl, lt_irrefl, List.filter_append, List.filter_append, List.filter_eq_self.2 h3, hf]
    simp [lt_irrefl]
  · have hn : ¬ ∀ y ∈ p ++ [x], lt y.1 k = true := fun h => by have := h x (by simp); rw [lt_asymm hx] at this; cases this
    rw [if_neg hn]
    unfold stepS
    rw [if_neg (show ¬ (x.1 == k) = true by simpa using fun e => lt_ne hx e.symm), hx, List.filter_append, List.filter_append]
    by_cases ha : ∀ y ∈ p, lt y.1 k = true
    · have hf : p.filter (fun y => lt k y.1) = [] := List.filter_eq_nil_iff.2 fun y hy => by rw [lt_asymm (ha y hy)]; simp
      rw [if_pos ha, List.filter_eq_self.2 ha, hf]
      simp [hx, lt_asymm hx]
    · rw [if_neg ha]
      simp [hx, lt_asymm hx]
theorem setL_false (p : List PairV) (k v : Bs) : setL p k v false = p.filter fun x => !(x.1 == k) := by
  unfold setL
  rw [setTo_false]; rfl
theorem setL_true {p : List PairV} (hs : Srt (keysP p)) (k v : Bs) : setL p k v true = (p.filter fun x => lt x.1 k) ++ (k, v) :: p.filter fun x => lt k x.1 := by
  unfold setL
  rw [setTo_true k v hs]
  by_cases h : ∀ x ∈ p, lt x.1 k = true
  · have hf : p.filter (fun y => lt k y.1) = [] := List.filter_eq_nil_iff.2 fun y hy => by rw [lt_asymm (h y hy)]; simp
    rw [if_pos h, if_neg (by simp), List.filter_eq_self.2 h, hf]
  · rw [if_neg h]; rfl
theorem findL_filter {p : List PairV} {f : PairV → Bool} {q : Bs} (h : ∀ x ∈ p, x.1 = q → f x = true) : findL (p.filter f) q = findL p q := by
  induction p with
  | nil => rfl
  | cons x p ih =>
    have ih := ih fun y hy => h y (by simp [hy])
    rw [List.filter_cons]
    by_cases hx : x.1 = q
    · rw [if_pos (h x (by simp) hx), findL_cons, findL_cons, if_pos (by simpa using hx), if_pos (by simpa using hx)]
    · split
      · rw [findL_cons, findL_cons, if_neg (by simpa using hx), if_neg (by simpa using hx), ih]
      · rw [findL_cons, if_neg (by simpa using hx), ih]
theorem find_set {p : List PairV} (hs : Srt (keysP p)) (k v : Bs) (there : Bool) (q : Bs) : findL (setL p k v there) q = if (k == q) = true then (if there = true then (v, true) else ([], false)) else findL p q := by
  by_cases hk : k = q
  · subst hk
    rw [if_pos (by simp)]
    cases there with
    | false =>
      rw [setL_false, if_neg (by simp)]
      exact findL_none fun x hx => by simpa using (List.mem_filter.1 hx).2
    | true =>
      rw [setL_true hs, if_pos rfl, findL_append (fun x hx => lt_ne (List.mem_filter.1 hx).2), findL_cons, if_pos (by simp)]
  · rw [if_neg (by simpa using hk)]
    cases there with
    | false =>
      rw [setL_false]
      exact findL_filter fun x _ hx => by simp [hx, Ne.symm hk]
    | true =>
      rw [setL_true hs]
      rcases lt_tri q k with h1 | h1 | h1
      · have hd : findL ((k, v) :: p.filter fun x => lt k x.1) q = findL [] q := by
          rw [findL_cons, if_neg (by simpa using hk)]
          exact findL_none fun x hx e => by have := (List.mem_filter.1 hx).2; rw [e, lt_asymm h1] at this; cases this
        rw [findL_app2 _ _ _ _ hd, List.append_nil]
        exact findL_filter fun x _ hx => by rw [hx, h1]
      · exact absurd h1.symm hk
      · rw [findL_append (fun x hx e => by have := (List.mem_filter.1 hx).2; rw [e, lt_asymm h1] at this; cases this), findL_cons, if_neg (by simpa using hk)]
        exact findL_filter fun x _ hx => by rw [hx, h1]
end Go.Proofs.ZtLe
namespace Go.Proofs.ZtLe
open Go.RowKit Go.Proofs Go.Proofs.Zm
set_option linter.unusedVariables false
set_option linter.unusedSimpArgs false
set_option maxHeartbeats 20000000
set_option maxRecDepth 100000
attribute [local irreducible] ZWp ZOps ZPure ZPure0 ZVal ZOp SoundF

/-! ### dumbwaiterref18: Set (as a pure call), Of, Fold, Apply -/
end Go.Proofs.ZtLe
namespace Go.Proofs.ZtLe
open Go.RowKit Go.Proofs Go.Proofs.Zm
set_option linter.unusedVariables false
set_option linter.unusedSimpArgs false
set_option maxHeartbeats 20000000
set_option maxRecDepth 100000
attribute [local irreducible] ZWp ZOps ZPure ZPure0 ZVal ZOp SoundF

/-! ### a Config's numbers -/
def cfgL (c : CfgV) : List Int := [c.keyMax, c.valMax, c.c, c.f, c.m, c.l, c.e, c.maxKeys, c.z]
def inC (n : Int) : Bool := !(decide (n < 0) || decide (1000 < n))
def okC (c : CfgV) : Bool := (cfgL c).all inC
theorem inC_t {n : Int} (h : inC n = true) : 0 ≤ n ∧ n ≤ 1000 := by
  unfold inC at h; simp at h; omega
theorem okC_t {c : CfgV} (h : okC c = true) : (0 ≤ c.keyMax ∧ c.keyMax ≤ 1000) ∧ (0 ≤ c.valMax ∧ c.valMax ≤ 1000) ∧ (0 ≤ c.f ∧ c.f ≤ 1000) ∧ (0 ≤ c.m ∧ c.m ≤ 1000) ∧ (0 ≤ c.l ∧ c.l ≤ 1000) := by
  unfold okC cfgL at h
  simp only [List.all_cons, List.all_nil, Bool.and_eq_true] at h
  exact ⟨inC_t h.1, inC_t h.2.1, inC_t h.2.2.2.1, inC_t h.2.2.2.2.1, inC_t h.2.2.2.2.2.1⟩
theorem okC_f {c : CfgV} {i : Nat} {n : Int} (h : (cfgL c)[i]? = some n) (hn : inC n = false) : okC c = false := by
  unfold okC
  rw [List.all_eq_false]
  exact ⟨n, List.mem_of_getElem? h, by rw [hn]; simp⟩
theorem okC_all {c : CfgV} (h : ∀ n ∈ (cfgL c).take 9, inC n = true) : okC c = true := List.all_eq_true.2 h
theorem cfgL_get {c : CfgV} {i : Nat} (h : i < 9) : ∃ n, (cfgL c)[i]? = some n ∧ (cfgL c).take (i + 1) = (cfgL c).take i ++ [n] ∧ ((cfgL c).map fun n => [D.v (.int .i64 n)]).getD i [] = [.v (.int .i64 n)] := by
  obtain ⟨n, h1, h2, h3, h4⟩ := elt (l := cfgL c) (i := i) (by simpa [cfgL] using h)
  exact ⟨n, h1, h2, h4 _⟩
theorem nok_pf {c : CfgV} (h : True) : PureF Try.prog 46 [.agg (cfgD c)] (.v (.bool (okC c))) := by
  refine pure_of Try.func46 rfl Try.results46 (by rw [Try.ntmps46]; simp) (fun w0 st K hK => ?_); rw [Try.ntmps46]
  have hS := Sep.nil st
  (repeat (first | ((with_reducible apply zr_seq)) | ((with_reducible apply zr_region); (try simp only [List.append_eq, List.cons_append, List.nil_append])) | ((with_reducible apply zo_end)) | ((with_reducible apply zs_move); (exact rfl); (exact rfl)) | ((with_reducible apply zs_assign); (exact rfl); (exact rfl)) | ((with_reducible apply zs_len); (exact rfl); (exact rfl); (exact un_sl rfl)) | ((with_reducible apply zr_block)) | ((with_reducible apply zs_field_ref); (exact rfl); (exact rfl); (exact fld_of rfl)) | ((with_reducible apply zs_load_ref); (exact rfl); (exact rfl); (exact sh_of rfl); (exact rfl)) | ((with_reducible apply (zs_boxRef (t := 1))); (exact rfl); (exact rfl)) | ((with_reducible apply (zs_lit (t := 23) [.tmp 6, .tmp 8, .tmp 10, .tmp 12, .tmp 14, .tmp 16, .tmp 18, .tmp 20, .tmp 22])); (exact rfl); (exact rfl); (exact rfl); (exact rfl); (exact un_sl rfl); (exact el_of rfl); (simp only [List.map_cons, List.map_nil, cellsD]; exact rfl); ((repeat (first | exact lit_nil | (apply lit_cons; exact rfl; (repeat (first | exact one_nil | (apply one_cons; (first | exact rfl | exact one_orow _ _ _)))))))); (decide))))
  refine zr_as 23 (.row ((cfgL c).map fun n => [D.v (.int .i64 n)]) 1 0) rfl (by first | exact DLe.refl _ | exact DLe.nilB | exact DLe.nilR | exact DLe.nilI | exact DLe.tok | exact DLe.nil _ | (refine DLe.agg ?_; (repeat (first | exact DLes.nil | (apply DLes.cons; first | exact DLe.refl _ | exact DLe.nilB | exact DLe.nilR | exact DLe.nilI | exact DLe.tok | exact DLe.nil _))))) ?_
  refine zr_as 24 (.v (.int .i64 9)) rfl (by first | exact DLe.refl _ | exact DLe.nilB | exact DLe.nilR | exact DLe.nilI | exact DLe.tok | exact DLe.nil _ | (refine DLe.agg ?_; (repeat (first | exact DLes.nil | (apply DLes.cons; first | exact DLe.refl _ | exact DLe.nilB | exact DLe.nilR | exact DLe.nilI | exact DLe.tok | exact DLe.nil _))))) ?_
  have hr0 : ((cfgL c).map fun n => [D.v (.int .i64 n)]).length = 9 := rfl
  refine zr_loopK [23, 24] (fun m e s => ∃ i : Nat, m + i = 9 ∧ e = [(25, .v (.int .i64 (i : Nat)))] ∧ Zm.Sep st s [] ∧ ∀ n ∈ (cfgL c).take i, inC n = true) 9 _ zq15 ⟨0, by omega, rfl, hS, by simp⟩ zq17 ?_
  rintro m e s ⟨i, hm, rfl, hS, hall⟩
  (repeat (first | ((with_reducible apply zr_seq)) | ((with_reducible apply zr_region); (try simp only [List.append_eq, List.cons_append, List.nil_append])) | ((with_reducible apply zo_end)) | ((with_reducible apply zs_lss); (exact rfl); (exact rfl); (exact rfl))))
  (first | refine zr_cond rfl (fun h1 => ?_) (fun h1 => ?_) | refine zs_split rfl rfl (fun h1 => ?_) (fun h1 => ?_)) <;> have h1' := h1 <;> (try simp only [decide_eq_true_eq, decide_eq_false_iff_not, Bool.and_eq_true, Bool.or_eq_true, Bool.and_eq_false_iff, Bool.or_eq_false_iff, Bool.not_eq_true', Bool.not_eq_false', Bool.not_eq_true, Bool.not_eq_false, Int.not_le, Int.not_lt, Classical.not_not, Decidable.not_not, ne_eq, beq_iff_eq, bne_iff_ne] at h1')
  · have hi : i < 9 := by have q : (i : Int) < 9 := h1'; omega
    obtain ⟨n, hn, hnt, hng⟩ := cfgL_get (c := c) hi
    (repeat (first | ((with_reducible apply zr_seq)) | ((with_reducible apply zr_region); (try simp only [List.append_eq, List.cons_append, List.nil_append])) | ((with_reducible apply zo_end)) | ((with_reducible apply zs_move); (exact rfl); (exact rfl)) | ((with_reducible apply zs_assign); (exact rfl); (exact rfl)) | ((with_reducible apply zs_lss); (exact rfl); (exact rfl); (exact rfl)) | ((with_reducible apply zr_block)) | ((with_reducible apply zr_skip')) | ((with_reducible apply zs_load_ref); (exact rfl); (exact rfl); (exact sh_of rfl); (exact rfl)) | ((with_reducible apply zs_orB); (exact rfl); (exact rfl); (exact rfl); (intro hp_; first | exact congrArg some (gd_t hp_) | exact rfl)) | ((with_reducible apply zs_idxE); (exact rfl); (exact rfl); (exact rfl); (exact un_sl rfl); (exact ii_of rfl); (first | omega | (simp only [List.length_map, List.length_take, List.length_drop, List.length_append, List.length_cons, List.length_nil, List.length_replicate, rowR_length, intR_length, msgR_length, pairR_length]; omega) | decide); (first | omega | (simp only [List.length_map, List.length_take, List.length_drop, List.length_append, List.length_cons, List.length_nil, List.length_replicate, rowR_length, intR_length, msgR_length, pairR_length]; omega) | decide); (first | (with_reducible exact Int.toNat_natCast _) | (simp only [Int.reduceToNat]; exact rfl) | exact rfl); (assumption)) | ((with_reducible apply (zs_h_move [])); (exact rfl); (first | exact GC.t rfl rfl | exact GC.f rfl rfl | exact GC.gt rfl rfl | exact GC.gf rfl rfl); (exact rfl); (intro hc_; first | exact congrArg some (gd_t hc_) | exact congrArg some (gd_t (band_l hc_)) | exact congrArg some (gd_t (band_l (band_l hc_))) | exact rfl)) | ((with_reducible apply (zs_h_gtr [])); (exact rfl); (first | exact GC.t rfl rfl | exact GC.f rfl rfl | exact GC.gt rfl rfl | exact GC.gf rfl rfl); (exact rfl); (intro hc_; first | exact congrArg some (gd_t hc_) | exact congrArg some (gd_t (band_l hc_)) | exact congrArg some (gd_t (band_l (band_l hc_))) | exact rfl); (intro hc_; first | exact congrArg some (gd_t hc_) | exact congrArg some (gd_t (band_l hc_)) | exact congrArg some (gd_t (band_l (band_l hc_))) | exact rfl))))
    cases hin : (decide (n < 0) || decide (1000 < n))
    · (repeat (first | ((with_reducible apply zr_region); (try simp only [List.append_eq, List.cons_append, List.nil_append])) | ((with_reducible apply zo_end)) | ((with_reducible apply zs_move); (exact rfl); (exact rfl)) | ((with_reducible apply zs_add); (exact rfl); (exact rfl); (exact rfl); (first | (with_reducible assumption) | exact wrap_in64 (by omega) (by omega))) | ((with_reducible apply zr_cond_f); (exact rfl); (first | assumption | exact rfl)) | ((with_reducible apply zr_skipB))))
      refine ⟨m - 1, _, by omega, ⟨i + 1, by omega, rfl, hS, fun x hx => ?_⟩, zq17, zq17⟩
      rw [hnt, List.mem_append] at hx
      rcases hx with hx | hx
      · exact hall x hx
      · rw [List.mem_singleton] at hx; subst hx; unfold inC; rw [hin]; rfl
    · rw [okC_f hn (by unfold inC; rw [hin]; rfl)] at hK
      (repeat (first | ((with_reducible apply zr_seq)) | ((with_reducible apply zr_region); (try simp only [List.append_eq, List.cons_append, List.nil_append])) | ((with_reducible apply zo_end)) | ((with_reducible apply zs_assign); (exact rfl); (exact rfl)) | ((with_reducible apply zr_cond_t); (exact rfl); (first | assumption | exact rfl)) | ((with_reducible apply zr_retZ); (exact rfl); (repeat (first | exact resD_nil _ _ _ | ((with_reducible apply resD_tmp); (exact rfl)) | ((with_reducible apply resD_cell_agg); (exact rfl); (exact sh_of rfl); (first | assumption | exact St.setH_self _ _ _ | exact Sep.at_ (i := 0) zq27 rfl | exact Sep.at_ (i := 1) zq27 rfl | exact Sep.at_ (i := 2) zq27 rfl | exact Sep.at_ (i := 3) zq27 rfl | exact Sep.at_ (i := 4) zq27 rfl | exact Sep.at_ (i := 5) zq27 rfl | exact Sep.at_ (i := 6) zq27 rfl); (exact rfl)) | ((with_reducible apply resD_cell); (exact rfl); (exact sh_of rfl); (first | assumption | exact St.setH_self _ _ _ | exact Sep.at_ (i := 0) zq27 rfl | exact Sep.at_ (i := 1) zq27 rfl | exact Sep.at_ (i := 2) zq27 rfl | exact Sep.at_ (i := 3) zq27 rfl | exact Sep.at_ (i := 4) zq27 rfl | exact Sep.at_ (i := 5) zq27 rfl | exact Sep.at_ (i := 6) zq27 rfl); (exact rfl)))); (simp only [resOf]))))
      exact KE.mk _ hS.ext hK
  · have hi : i = 9 := by have q : (9 : Int) ≤ i := h1'; omega
    subst hi
    rw [okC_all hall] at hK
    (repeat (first | ((with_reducible apply zr_seq)) | ((with_reducible apply zr_region); (try simp only [List.append_eq, List.cons_append, List.nil_append])) | ((with_reducible apply zo_end)) | ((with_reducible apply zs_assign); (exact rfl); (exact rfl)) | (with_reducible refine zr_exit ?_; simp only [Zthen, Zblock, ↓reduceIte]) | ((with_reducible apply zr_retZ); (exact rfl); (repeat (first | exact resD_nil _ _ _ | ((with_reducible apply resD_tmp); (exact rfl)) | ((with_reducible apply resD_cell_agg); (exact rfl); (exact sh_of rfl); (first | assumption | exact St.setH_self _ _ _ | exact Sep.at_ (i := 0) zq27 rfl | exact Sep.at_ (i := 1) zq27 rfl | exact Sep.at_ (i := 2) zq27 rfl | exact Sep.at_ (i := 3) zq27 rfl | exact Sep.at_ (i := 4) zq27 rfl | exact Sep.at_ (i := 5) zq27 rfl | exact Sep.at_ (i := 6) zq27 rfl); (exact rfl)) | ((with_reducible apply resD_cell); (exact rfl); (exact sh_of rfl); (first | assumption | exact St.setH_self _ _ _ | exact Sep.at_ (i := 0) zq27 rfl | exact Sep.at_ (i := 1) zq27 rfl | exact Sep.at_ (i := 2) zq27 rfl | exact Sep.at_ (i := 3) zq27 rfl | exact Sep.at_ (i := 4) zq27 rfl | exact Sep.at_ (i := 5) zq27 rfl | exact Sep.at_ (i := 6) zq27 rfl); (exact rfl)))); (simp only [resOf]))))
    exact KE.mk _ hS.ext hK
end Go.Proofs.ZtLe
