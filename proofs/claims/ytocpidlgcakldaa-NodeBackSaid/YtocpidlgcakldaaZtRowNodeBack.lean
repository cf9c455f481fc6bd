/- Any node that is one is as long as all others, and is read as it was; what is none has no bytes; bytes that are read as a node are those of it. No condition. -/
import Derived.Test.YtocpidlgcakldaaRows
import Derived.Test.YtocpidlgcakldaaZtP19
import Derived.Test.YtocpidlgcakldaaZmP1
import Derived.Test.YtocpidlgcakldaaZmP2
import Derived.WalkKit
import Derived.ProofKit
import Derived.OpenShut
import Derived.ShutString
import Derived.ChangeOld
import Derived.Below
import Derived.SizedLaws
namespace Go.Proofs.Ytocpidlgcakldaa.nodeBack
open Go.ChangeShapes Go.WideShapes Go.ChangeAt Go.RowKit
open Go.ChangeMaps (open_string shut_string)
set_option linter.unusedVariables false
theorem own : ownKnob Try.prog.godebug = none := by kernel_rfl
theorem laidOut : laidOutB Try.prog = true := by kernel_rfl
set_option maxRecDepth 100000 in
theorem lifted (os : Os) (started : os.Started) (H : Type) (enc : TypeId × Value → H) :
    ReturnsInHanded {} Try.checked os 6 .any (Rows.nodeBackSpec.pre6 enc Try.prog Try.f6 Rows.nodeBackRow.domain false) (Rows.nodeBackSpec.post enc Try.prog Try.f6 false true false false) := by
  refine returnsInHanded_of_change_sized (C := Try.checked) own started (by kernel_rfl) Try.func6
    (ChangeSpec.witness6 (enc := enc) (C := Try.checked) false ⟨#[], #[.agg #[.int .i64 0, .int .i64 0, .int .i64 0, .int .i64 0, .int .i64 0, .int .i64 0, .int .i64 0, .int .i64 0, .int .i64 0, .float .f64 0], .agg #[.bool false, .slice none 0 0, .slice none 0 0, .slice none 0 0, .slice none 0 0], .slice none 0 0, .slice none 0 0, .int .i64 0, .int .u8 0], []⟩ 8 (by kernel_rfl) (by kernel_rfl) (by kernel_rfl) (by kernel_rfl)) ?_
  intro W base args ds gs before hval0 hW hcnd hsz0 _
  have hsz : (DataW.weightsEach Try.prog (Try.f6.params.toList ++ Rows.nodeBackSpec.plain.varTypes Try.prog) (ds ++ gs)).all (· ≤ reachBytes) = true := hsz0
  have hval : ∀ (j : Nat) t v, Try.f6.params[j]? = some t → args[j]? = some v → Value.okWide Try.prog W .any base t v := hval0
  have hW' := hW
  obtain ⟨p, q, hA0, hV, rfl, hfz, hnd⟩ := hW
  have hA : DataW.TrodAll enc Try.prog W 0 (fun _ => true) true Try.f6.params.toList args.toList ds p := hA0
  rw [Try.params6] at hA hval hsz
  obtain ⟨v0, vs0, d0, ds0, p0, q0, hargs, rfl, rfl, h0, r0⟩ := trodAll_cons hA
  obtain ⟨v1, vs1, d1, ds1, p1, q1, rfl, rfl, rfl, h1, r1⟩ := trodAll_cons r0
  obtain ⟨v2, vs2, d2, ds2, p2, q2, rfl, rfl, rfl, h2, r2⟩ := trodAll_cons r1
  obtain ⟨v3, vs3, d3, ds3, p3, q3, rfl, rfl, rfl, h3, r3⟩ := trodAll_cons r2
  obtain ⟨v4, vs4, d4, ds4, p4, q4, rfl, rfl, rfl, h4, r4⟩ := trodAll_cons r3
  obtain ⟨v5, vs5, d5, ds5, p5, q5, rfl, rfl, rfl, h5, r5⟩ := trodAll_cons r4
  obtain ⟨rfl, rfl, rfl⟩ := trodAll_nil r5
  obtain rfl : args = #[v0, v1, v2, v3, v4, v5] := by cases args; simp_all
  obtain ⟨rfl, rfl⟩ := trodVars_none hV
  obtain ⟨a0, rfl, cs0⟩ := okWide_struct Try.underlying24 (hval 0 24 v0 rfl rfl)
  have k0 := h0
  have lt0 : ∀ x ∈ p0, x.block < W.heap.size := by obtain ⟨m, hm⟩ := k0; exact DataW.trod_lt m _ _ _ hm
  obtain ⟨fu0, hf0⟩ := h0
  obtain ⟨e0, ok0, vv0⟩ := Zm.read_cells fu0 24 [.int .i64, .int .i64, .int .i64, .int .i64, .int .i64, .int .i64, .int .i64, .int .i64, .int .i64, .float] _ _ (.struct (ss := [.int .i64, .int .i64, .int .i64, .int .i64, .int .i64, .int .i64, .int .i64, .int .i64, .int .i64, .float]) Try.underlying24 (.cons (ss := [.int .i64]) (.int Try.underlying3) rfl (by kernel_rfl) (.cons (ss := [.int .i64]) (.int Try.underlying3) rfl (by kernel_rfl) (.cons (ss := [.int .i64]) (.int Try.underlying3) rfl (by kernel_rfl) (.cons (ss := [.int .i64]) (.int Try.underlying3) rfl (by kernel_rfl) (.cons (ss := [.int .i64]) (.int Try.underlying3) rfl (by kernel_rfl) (.cons (ss := [.int .i64]) (.int Try.underlying3) rfl (by kernel_rfl) (.cons (ss := [.int .i64]) (.int Try.underlying3) rfl (by kernel_rfl) (.cons (ss := [.int .i64]) (.int Try.underlying3) rfl (by kernel_rfl) (.cons (ss := [.int .i64]) (.int Try.underlying3) rfl (by kernel_rfl) (.cons (ss := [.float]) (.float Try.underlying22) rfl (by kernel_rfl) .nil)))))))))) (by kernel_rfl)) hf0
  obtain ⟨g0, rfl, q0⟩ := ZtLe.cfg_of ok0
  have vr0 := Zm.vr_agg vv0
  obtain ⟨a1, rfl, cs1⟩ := okWide_struct Try.underlying34 (hval 1 34 v1 rfl rfl)
  have k1 := h1
  have lt1 : ∀ x ∈ p1, x.block < W.heap.size := by obtain ⟨m, hm⟩ := k1; exact DataW.trod_lt m _ _ _ hm
  obtain ⟨fu1, hf1⟩ := h1
  obtain ⟨e1, ok1, vv1⟩ := Zm.read_cellsR fu1 34 [.bool, .slice [.slice [.int .u8]], .slice [.slice [.int .u8]], .slice [.int .i64], .slice [.int .i64, .slice [.int .u8], .slice [.int .u8]]] _ _ (.struct (ss := [.bool, .slice [.slice [.int .u8]], .slice [.slice [.int .u8]], .slice [.int .i64], .slice [.int .i64, .slice [.int .u8], .slice [.int .u8]]]) Try.underlying34 (.cons (ss := [.bool]) (.bool Try.underlying4) rfl (by kernel_rfl) (.cons (ss := [.slice [.slice [.int .u8]]]) (.slice (es := [.slice [.int .u8]]) Try.underlying26 (.slice (es := [.int .u8]) Try.underlying27 (.int Try.underlying5) (by kernel_rfl) (of_decide_eq_true (by kernel_rfl))) (by kernel_rfl) (of_decide_eq_true (by kernel_rfl))) rfl (by kernel_rfl) (.cons (ss := [.slice [.slice [.int .u8]]]) (.slice (es := [.slice [.int .u8]]) Try.underlying26 (.slice (es := [.int .u8]) Try.underlying27 (.int Try.underlying5) (by kernel_rfl) (of_decide_eq_true (by kernel_rfl))) (by kernel_rfl) (of_decide_eq_true (by kernel_rfl))) rfl (by kernel_rfl) (.cons (ss := [.slice [.int .i64]]) (.slice (es := [.int .i64]) Try.underlying31 (.int Try.underlying3) (by kernel_rfl) (of_decide_eq_true (by kernel_rfl))) rfl (by kernel_rfl) (.cons (ss := [.slice [.int .i64, .slice [.int .u8], .slice [.int .u8]]]) (.slice (es := [.int .i64, .slice [.int .u8], .slice [.int .u8]]) Try.underlying32 (.struct (ss := [.int .i64, .slice [.int .u8], .slice [.int .u8]]) Try.underlying30 (.cons (ss := [.int .i64]) (.int Try.underlying3) rfl (by kernel_rfl) (.cons (ss := [.slice [.int .u8]]) (.slice (es := [.int .u8]) Try.underlying27 (.int Try.underlying5) (by kernel_rfl) (of_decide_eq_true (by kernel_rfl))) rfl (by kernel_rfl) (.cons (ss := [.slice [.int .u8]]) (.slice (es := [.int .u8]) Try.underlying27 (.int Try.underlying5) (by kernel_rfl) (of_decide_eq_true (by kernel_rfl))) rfl (by kernel_rfl) .nil))) (by kernel_rfl)) (by kernel_rfl) (of_decide_eq_true (by kernel_rfl))) rfl (by kernel_rfl) .nil))))) (by kernel_rfl)) hf1 (Zm.weights_le hsz (j := 1) (t := 34) rfl rfl)
  obtain ⟨g1, rfl, q1⟩ := ZtLe.node_of ok1
  have vr1 := Zm.vr_agg vv1
  obtain ⟨a2, len2, cap2, rfl⟩ := okWide_slice Try.underlying31 (hval 2 31 v2 rfl rfl)
  have k2 := h2
  have lt2 : ∀ x ∈ p2, x.block < W.heap.size := by obtain ⟨m, hm⟩ := k2; exact DataW.trod_lt m _ _ _ hm
  have y2 := Zm.row_len hsz (j := 2) (t := 31) rfl rfl Try.underlying31 (of_decide_eq_true (by kernel_rfl)) h2
  have z2 := Zm.row_lenB hsz (j := 2) (t := 31) rfl rfl Try.underlying31 (show Try.prog.bytesOf 3 = 8 by kernel_rfl) h2
  obtain ⟨fu2, hf2⟩ := h2
  obtain ⟨e2, ok2, vv2⟩ := Zm.read_cells fu2 31 [.slice [.int .i64]] _ _ (.slice (es := [.int .i64]) Try.underlying31 (.int Try.underlying3) (by kernel_rfl)) hf2
  obtain ⟨l2, er2, rfl, okc2, okn2⟩ := ok2.cons
  obtain rfl := okn2.nil
  have vr2 := vv2.2 0 _ _ rfl rfl
  obtain ⟨g2, rfl, q2⟩ := ZtLe.ints_of okc2
  have n2 := Zm.vr_row_len vr2
  obtain ⟨a3, len3, cap3, rfl⟩ := okWide_slice Try.underlying27 (hval 3 27 v3 rfl rfl)
  have k3 := h3
  have lt3 : ∀ x ∈ p3, x.block < W.heap.size := by obtain ⟨m, hm⟩ := k3; exact DataW.trod_lt m _ _ _ hm
  obtain ⟨y3, l3, e3, vr3⟩ := Zm.row_bytes hsz (j := 3) (t := 27) rfl rfl Try.underlying27 Try.underlying5 (by kernel_rfl) (by kernel_rfl) h3
  obtain ⟨a4, rfl, rfl, rfl, w4⟩ := open_int Try.underlying3 (hval 4 3 v4 rfl rfl) h4
  have g4 := Zm.wf_range w4
  simp [IntKind.min, IntKind.max, IntKind.signed, IntKind.bits] at g4
  obtain ⟨a5, rfl, rfl, rfl, w5⟩ := open_int Try.underlying5 (hval 5 5 v5 rfl rfl) h5
  have g5 := Zm.wf_range w5
  simp [IntKind.min, IntKind.max, IntKind.signed, IntKind.bits] at g5
  refine (Zm.entry ZtLe.nback_snd W _ _ (Zm.VRs.cons vr0 (Zm.VRs.cons vr1 (Zm.VRs.cons vr2 (Zm.VRs.cons vr3 (Zm.VRs.cons (.v _) (Zm.VRs.cons (.v _) (Zm.VRs.nil _))))))) (by obtain ⟨y, rfl⟩ := ZtLe.u8_is (n := a5) ⟨by omega, by omega⟩; exact ⟨g0, g1, g2, 0, l3, _, _, y, rfl, ⟨q1.1.1.1, q1.1.1.2, q1.1.2.1, q1.1.2.2, q1.2⟩, ⟨by simp only [Zm.intR_length] at n2; omega, by omega⟩, rfl⟩)).mono fun e W' ⟨he, bel⟩ => ?_
  subst he
  exact ⟨_, rfl, _, _, _, [], _, [], hW', trodAll_mk1 (shut_bool Try.underlying4 _), (trodAll_cons_mk (Below.trod laidOut (by kernel_rfl) (of_decide_eq_true (by kernel_rfl)) k0 bel lt0) (trodAll_cons_mk (Below.trod laidOut (by kernel_rfl) (of_decide_eq_true (by kernel_rfl)) k1 bel lt1) (trodAll_cons_mk (Below.trod laidOut (by kernel_rfl) (of_decide_eq_true (by kernel_rfl)) k2 bel lt2) (trodAll_cons_mk (Below.trod laidOut (by kernel_rfl) (of_decide_eq_true (by kernel_rfl)) k3 bel lt3) (trodAll_cons_mk (shut_int Try.underlying3 w4) (trodAll_cons_mk (shut_int Try.underlying5 w5) trodAll_mk0)))))), rfl, bel.frame _, fun h => by cases h⟩
theorem over : Rows.nodeBackRow.holds Try.pinned (OpenSpec.ofChange Rows.nodeBackSpec) :=
  OpenClaim.holds_of_wide 6 Try.f6 rfl rfl rfl rfl rfl rfl rfl ⟨rfl, rfl, rfl, rfl, rfl⟩ rfl rfl rfl rfl rfl (by kernel_rfl) Try.func6 (by kernel_rfl)
    (of_decide_eq_true (by kernel_rfl)) (by unfold Func.isWrapper; first | (rw [if_pos (by decide +kernel)]; kernel_rfl) | (rw [if_neg (by decide +kernel)]; exact ⟨rfl, rfl⟩))
    (fun os started H enc _ => lifted os started H enc)
theorem proved : Rows.NodeBackSaid := over
#print axioms proved
end Go.Proofs.Ytocpidlgcakldaa.nodeBack
namespace Go.Proofs.Ytocpidlgcakldaa
/-- The row, under a short name, for the claim. -/
theorem nodeBack_holds : Rows.NodeBackSaid := nodeBack.proved
end Go.Proofs.Ytocpidlgcakldaa
