/- Any messages, in order, come to what the document says, for one key, and for pairs; those of a key are found; keys stand in order as it says. No condition. -/
import Derived.Test.YtakicgmmpjmniaaRows
import Derived.Test.YtakicgmmpjmniaaZtUMesgTells
import Derived.Test.YtakicgmmpjmniaaZmP1
import Derived.Test.YtakicgmmpjmniaaZmP2
import Derived.WalkKit
import Derived.ProofKit
import Derived.OpenShut
import Derived.ShutString
import Derived.ChangeOld
import Derived.Below
import Derived.SizedLaws
namespace Go.Proofs.Ytakicgmmpjmniaa.mesgTells
open Go.ChangeShapes Go.WideShapes Go.ChangeAt Go.RowKit
open Go.ChangeMaps (open_string shut_string)
set_option linter.unusedVariables false
theorem own : ownKnob Try.prog.godebug = none := by kernel_rfl
theorem laidOut : laidOutB Try.prog = true := by kernel_rfl
set_option maxRecDepth 100000 in
theorem lifted (os : Os) (started : os.Started) (H : Type) (enc : TypeId × Value → H) :
    ReturnsInHanded {} Try.checked os 5 .any (Rows.mesgTellsSpec.pre6 enc Try.prog Try.f5 Rows.mesgTellsRow.domain false) (Rows.mesgTellsSpec.post enc Try.prog Try.f5 false true false false) := by
  refine returnsInHanded_of_change_sized (C := Try.checked) own started (by kernel_rfl) Try.func5
    (ChangeSpec.witness6 (enc := enc) (C := Try.checked) false ⟨#[], #[.slice none 0 0, .agg #[.int .i64 0, .int .i64 0, .int .i64 0, .int .i64 0, .int .i64 0, .int .i64 0, .int .i64 0, .int .i64 0, .int .i64 0, .float .f64 0], .slice none 0 0, .slice none 0 0, .slice none 0 0, .bool false, .slice none 0 0, .slice none 0 0], []⟩ 8 (by kernel_rfl) (by kernel_rfl) (by kernel_rfl) (by kernel_rfl)) ?_
  intro W base args ds gs before hval0 hW hcnd hsz0 _
  have hsz : (DataW.weightsEach Try.prog (Try.f5.params.toList ++ Rows.mesgTellsSpec.plain.varTypes Try.prog) (ds ++ gs)).all (· ≤ reachBytes) = true := hsz0
  have hval : ∀ (j : Nat) t v, Try.f5.params[j]? = some t → args[j]? = some v → Value.okWide Try.prog W .any base t v := hval0
  have hW' := hW
  obtain ⟨p, q, hA0, hV, rfl, hfz, hnd⟩ := hW
  have hA : DataW.TrodAll enc Try.prog W 0 (fun _ => true) true Try.f5.params.toList args.toList ds p := hA0
  rw [Try.params5] at hA hval hsz
  obtain ⟨v0, vs0, d0, ds0, p0, q0, hargs, rfl, rfl, h0, r0⟩ := trodAll_cons hA
  obtain ⟨v1, vs1, d1, ds1, p1, q1, rfl, rfl, rfl, h1, r1⟩ := trodAll_cons r0
  obtain ⟨v2, vs2, d2, ds2, p2, q2, rfl, rfl, rfl, h2, r2⟩ := trodAll_cons r1
  obtain ⟨v3, vs3, d3, ds3, p3, q3, rfl, rfl, rfl, h3, r3⟩ := trodAll_cons r2
  obtain ⟨v4, vs4, d4, ds4, p4, q4, rfl, rfl, rfl, h4, r4⟩ := trodAll_cons r3
  obtain ⟨v5, vs5, d5, ds5, p5, q5, rfl, rfl, rfl, h5, r5⟩ := trodAll_cons r4
  obtain ⟨v6, vs6, d6, ds6, p6, q6, rfl, rfl, rfl, h6, r6⟩ := trodAll_cons r5
  obtain ⟨v7, vs7, d7, ds7, p7, q7, rfl, rfl, rfl, h7, r7⟩ := trodAll_cons r6
  obtain ⟨rfl, rfl, rfl⟩ := trodAll_nil r7
  obtain rfl : args = #[v0, v1, v2, v3, v4, v5, v6, v7] := by cases args; simp_all
  obtain ⟨rfl, rfl⟩ := trodVars_none hV
  obtain ⟨a0, len0, cap0, rfl⟩ := okWide_slice Try.underlying29 (hval 0 29 v0 rfl rfl)
  have k0 := h0
  have lt0 : ∀ x ∈ p0, x.block < W.heap.size := by obtain ⟨m, hm⟩ := k0; exact DataW.trod_lt m _ _ _ hm
  have y0 := Zm.row_len hsz (j := 0) (t := 29) rfl rfl Try.underlying29 (of_decide_eq_true (by kernel_rfl)) h0
  obtain ⟨fu0, hf0⟩ := h0
  obtain ⟨e0, ok0, vv0⟩ := Zm.read_cellsR fu0 29 [.slice [.int .i64, .slice [.int .u8], .slice [.int .u8]]] _ _ (.slice (es := [.int .i64, .slice [.int .u8], .slice [.int .u8]]) Try.underlying29 (.struct (ss := [.int .i64, .slice [.int .u8], .slice [.int .u8]]) Try.underlying33 (.cons (ss := [.int .i64]) (.int Try.underlying3) rfl (by kernel_rfl) (.cons (ss := [.slice [.int .u8]]) (.slice (es := [.int .u8]) Try.underlying31 (.int Try.underlying5) (by kernel_rfl) (of_decide_eq_true (by kernel_rfl))) rfl (by kernel_rfl) (.cons (ss := [.slice [.int .u8]]) (.slice (es := [.int .u8]) Try.underlying31 (.int Try.underlying5) (by kernel_rfl) (of_decide_eq_true (by kernel_rfl))) rfl (by kernel_rfl) .nil))) (by kernel_rfl)) (by kernel_rfl) (of_decide_eq_true (by kernel_rfl))) hf0 (Zm.weights_le hsz (j := 0) (t := 29) rfl rfl)
  obtain ⟨l0, er0, rfl, okc0, okn0⟩ := ok0.cons
  obtain rfl := okn0.nil
  have vr0 := vv0.2 0 _ _ rfl rfl
  obtain ⟨g0, rfl, q0⟩ := ZtLe.msgs_of okc0
  have n0 := Zm.vr_row_len vr0
  obtain ⟨a1, rfl, cs1⟩ := okWide_struct Try.underlying24 (hval 1 24 v1 rfl rfl)
  have k1 := h1
  have lt1 : ∀ x ∈ p1, x.block < W.heap.size := by obtain ⟨m, hm⟩ := k1; exact DataW.trod_lt m _ _ _ hm
  obtain ⟨fu1, hf1⟩ := h1
  obtain ⟨e1, ok1, vv1⟩ := Zm.read_cells fu1 24 [.int .i64, .int .i64, .int .i64, .int .i64, .int .i64, .int .i64, .int .i64, .int .i64, .int .i64, .float] _ _ (.struct (ss := [.int .i64, .int .i64, .int .i64, .int .i64, .int .i64, .int .i64, .int .i64, .int .i64, .int .i64, .float]) Try.underlying24 (.cons (ss := [.int .i64]) (.int Try.underlying3) rfl (by kernel_rfl) (.cons (ss := [.int .i64]) (.int Try.underlying3) rfl (by kernel_rfl) (.cons (ss := [.int .i64]) (.int Try.underlying3) rfl (by kernel_rfl) (.cons (ss := [.int .i64]) (.int Try.underlying3) rfl (by kernel_rfl) (.cons (ss := [.int .i64]) (.int Try.underlying3) rfl (by kernel_rfl) (.cons (ss := [.int .i64]) (.int Try.underlying3) rfl (by kernel_rfl) (.cons (ss := [.int .i64]) (.int Try.underlying3) rfl (by kernel_rfl) (.cons (ss := [.int .i64]) (.int Try.underlying3) rfl (by kernel_rfl) (.cons (ss := [.int .i64]) (.int Try.underlying3) rfl (by kernel_rfl) (.cons (ss := [.float]) (.float Try.underlying22) rfl (by kernel_rfl) .nil)))))))))) (by kernel_rfl)) hf1
  obtain ⟨g1, rfl, q1⟩ := ZtLe.cfg_of ok1
  have vr1 := Zm.vr_agg vv1
  obtain ⟨a2, len2, cap2, rfl⟩ := okWide_slice Try.underlying25 (hval 2 25 v2 rfl rfl)
  have k2 := h2
  have lt2 : ∀ x ∈ p2, x.block < W.heap.size := by obtain ⟨m, hm⟩ := k2; exact DataW.trod_lt m _ _ _ hm
  have y2 := Zm.row_len hsz (j := 2) (t := 25) rfl rfl Try.underlying25 (of_decide_eq_true (by kernel_rfl)) h2
  have z2 := Zm.row_lenB hsz (j := 2) (t := 25) rfl rfl Try.underlying25 (show Try.prog.bytesOf 3 = 8 by kernel_rfl) h2
  obtain ⟨fu2, hf2⟩ := h2
  obtain ⟨e2, ok2, vv2⟩ := Zm.read_cells fu2 25 [.slice [.int .i64]] _ _ (.slice (es := [.int .i64]) Try.underlying25 (.int Try.underlying3) (by kernel_rfl)) hf2
  obtain ⟨l2, er2, rfl, okc2, okn2⟩ := ok2.cons
  obtain rfl := okn2.nil
  have vr2 := vv2.2 0 _ _ rfl rfl
  obtain ⟨g2, rfl, q2⟩ := ZtLe.ints_of okc2
  have n2 := Zm.vr_row_len vr2
  obtain ⟨a3, len3, cap3, rfl⟩ := okWide_slice Try.underlying25 (hval 3 25 v3 rfl rfl)
  have k3 := h3
  have lt3 : ∀ x ∈ p3, x.block < W.heap.size := by obtain ⟨m, hm⟩ := k3; exact DataW.trod_lt m _ _ _ hm
  have y3 := Zm.row_len hsz (j := 3) (t := 25) rfl rfl Try.underlying25 (of_decide_eq_true (by kernel_rfl)) h3
  have z3 := Zm.row_lenB hsz (j := 3) (t := 25) rfl rfl Try.underlying25 (show Try.prog.bytesOf 3 = 8 by kernel_rfl) h3
  obtain ⟨fu3, hf3⟩ := h3
  obtain ⟨e3, ok3, vv3⟩ := Zm.read_cells fu3 25 [.slice [.int .i64]] _ _ (.slice (es := [.int .i64]) Try.underlying25 (.int Try.underlying3) (by kernel_rfl)) hf3
  obtain ⟨l3, er3, rfl, okc3, okn3⟩ := ok3.cons
  obtain rfl := okn3.nil
  have vr3 := vv3.2 0 _ _ rfl rfl
  obtain ⟨g3, rfl, q3⟩ := ZtLe.ints_of okc3
  have n3 := Zm.vr_row_len vr3
  obtain ⟨a4, len4, cap4, rfl⟩ := okWide_slice Try.underlying31 (hval 4 31 v4 rfl rfl)
  have k4 := h4
  have lt4 : ∀ x ∈ p4, x.block < W.heap.size := by obtain ⟨m, hm⟩ := k4; exact DataW.trod_lt m _ _ _ hm
  obtain ⟨y4, l4, e4, vr4⟩ := Zm.row_bytes hsz (j := 4) (t := 31) rfl rfl Try.underlying31 Try.underlying5 (by kernel_rfl) (by kernel_rfl) h4
  obtain ⟨a5, rfl, rfl, rfl⟩ := open_bool Try.underlying4 (hval 5 4 v5 rfl rfl) h5
  obtain ⟨a6, len6, cap6, rfl⟩ := okWide_slice Try.underlying31 (hval 6 31 v6 rfl rfl)
  have k6 := h6
  have lt6 : ∀ x ∈ p6, x.block < W.heap.size := by obtain ⟨m, hm⟩ := k6; exact DataW.trod_lt m _ _ _ hm
  obtain ⟨y6, l6, e6, vr6⟩ := Zm.row_bytes hsz (j := 6) (t := 31) rfl rfl Try.underlying31 Try.underlying5 (by kernel_rfl) (by kernel_rfl) h6
  obtain ⟨a7, len7, cap7, rfl⟩ := okWide_slice Try.underlying31 (hval 7 31 v7 rfl rfl)
  have k7 := h7
  have lt7 : ∀ x ∈ p7, x.block < W.heap.size := by obtain ⟨m, hm⟩ := k7; exact DataW.trod_lt m _ _ _ hm
  obtain ⟨y7, l7, e7, vr7⟩ := Zm.row_bytes hsz (j := 7) (t := 31) rfl rfl Try.underlying31 Try.underlying5 (by kernel_rfl) (by kernel_rfl) h7
  refine (Zm.entry ZtLe.tellsM_snd W _ _ (Zm.VRs.cons vr0 (Zm.VRs.cons vr1 (Zm.VRs.cons vr2 (Zm.VRs.cons vr3 (Zm.VRs.cons vr4 (Zm.VRs.cons (.v _) (Zm.VRs.cons vr6 (Zm.VRs.cons vr7 (Zm.VRs.nil _))))))))) ⟨g0, g1, g2, g3, l4, a5, l6, l7, 0, 0, 0, _, _, _, rfl, q0.1, fun m hm => (q0.2 m hm).2, by simp only [Zm.intR_length] at n2; omega, by simp only [Zm.intR_length] at n3; omega, by omega, by omega, by omega, rfl⟩).mono fun e W' ⟨he, bel⟩ => ?_
  subst he
  exact ⟨_, rfl, _, _, _, [], _, [], hW', trodAll_mk1 (shut_bool Try.underlying4 _), (trodAll_cons_mk (Below.trod laidOut (by kernel_rfl) (of_decide_eq_true (by kernel_rfl)) k0 bel lt0) (trodAll_cons_mk (Below.trod laidOut (by kernel_rfl) (of_decide_eq_true (by kernel_rfl)) k1 bel lt1) (trodAll_cons_mk (Below.trod laidOut (by kernel_rfl) (of_decide_eq_true (by kernel_rfl)) k2 bel lt2) (trodAll_cons_mk (Below.trod laidOut (by kernel_rfl) (of_decide_eq_true (by kernel_rfl)) k3 bel lt3) (trodAll_cons_mk (Below.trod laidOut (by kernel_rfl) (of_decide_eq_true (by kernel_rfl)) k4 bel lt4) (trodAll_cons_mk (shut_bool Try.underlying4 _) (trodAll_cons_mk (Below.trod laidOut (by kernel_rfl) (of_decide_eq_true (by kernel_rfl)) k6 bel lt6) (trodAll_cons_mk (Below.trod laidOut (by kernel_rfl) (of_decide_eq_true (by kernel_rfl)) k7 bel lt7) trodAll_mk0)))))))), rfl, bel.frame _, fun h => by cases h⟩
theorem over : Rows.mesgTellsRow.holds Try.pinned (OpenSpec.ofChange Rows.mesgTellsSpec) :=
  OpenClaim.holds_of_wide 5 Try.f5 rfl rfl rfl rfl rfl rfl rfl ⟨rfl, rfl, rfl, rfl, rfl⟩ rfl rfl rfl rfl rfl (by kernel_rfl) Try.func5 (by kernel_rfl)
    (of_decide_eq_true (by kernel_rfl)) (by unfold Func.isWrapper; first | (rw [if_pos (by decide +kernel)]; kernel_rfl) | (rw [if_neg (by decide +kernel)]; exact ⟨rfl, rfl⟩))
    (fun os started H enc _ => lifted os started H enc)
theorem proved : Rows.MesgTellsSaid := over
#print axioms proved
end Go.Proofs.Ytakicgmmpjmniaa.mesgTells
namespace Go.Proofs.Ytakicgmmpjmniaa
/-- The row, under a short name, for the claim. -/
theorem mesgTells_holds : Rows.MesgTellsSaid := mesgTells.proved
end Go.Proofs.Ytakicgmmpjmniaa
