/- Any Cells are a bucket, any bytes are one, or not, as the document says. -/
import Derived.Test.YtpelekdimmfldaaRows
import Derived.Test.YtpelekdimmfldaaZtBuN
import Derived.Test.YtpelekdimmfldaaZm12
import Derived.Test.YtpelekdimmfldaaZm26
import Derived.WalkKit
import Derived.ProofKit
import Derived.OpenShut
import Derived.ShutString
import Derived.ChangeOld
import Derived.Below
import Derived.SizedLaws
namespace Go.Proofs.Ytpelekdimmfldaa.buckTells
open Go.ChangeShapes Go.WideShapes Go.ChangeAt Go.RowKit
open Go.ChangeMaps (open_string shut_string)
set_option linter.unusedVariables false
theorem own : ownKnob Try.prog.godebug = none := by kernel_rfl
theorem laidOut : laidOutB Try.prog = true := by kernel_rfl
set_option maxRecDepth 100000 in
theorem lifted (os : Os) (started : os.Started) (H : Type) (enc : TypeId × Value → H) :
    ReturnsInHanded {} Try.checked os 13 .any (Rows.buckTellsSpec.pre6 enc Try.prog Try.f13 Rows.buckTellsRow.domain false) (Rows.buckTellsSpec.post enc Try.prog Try.f13 false true false false) := by
  refine returnsInHanded_of_change_sized (C := Try.checked) own started (by kernel_rfl) Try.func13
    (ChangeSpec.witness6 (enc := enc) (C := Try.checked) false ⟨#[], #[.slice none 0 0, .int .i64 0, .int .i64 0, .slice none 0 0, .int .i64 0, .int .u8 0], []⟩ 8 (by kernel_rfl) (by kernel_rfl) (by kernel_rfl) (by kernel_rfl)) ?_
  intro W base args ds gs before hval0 hW hcnd hsz0 _
  have hsz : (DataW.weightsEach Try.prog (Try.f13.params.toList ++ Rows.buckTellsSpec.plain.varTypes Try.prog) (ds ++ gs)).all (· ≤ reachBytes) = true := hsz0
  have hval : ∀ (j : Nat) t v, Try.f13.params[j]? = some t → args[j]? = some v → Value.okWide Try.prog W .any base t v := hval0
  have hW' := hW
  obtain ⟨p, q, hA0, hV, rfl, hfz, hnd⟩ := hW
  have hA : DataW.TrodAll enc Try.prog W 0 (fun _ => true) true Try.f13.params.toList args.toList ds p := hA0
  rw [Try.params13] at hA hval hsz
  obtain ⟨v0, vs0, d0, ds0, p0, q0, hargs, rfl, rfl, h0, r0⟩ := trodAll_cons hA
  obtain ⟨v1, vs1, d1, ds1, p1, q1, rfl, rfl, rfl, h1, r1⟩ := trodAll_cons r0
  obtain ⟨v2, vs2, d2, ds2, p2, q2, rfl, rfl, rfl, h2, r2⟩ := trodAll_cons r1
  obtain ⟨v3, vs3, d3, ds3, p3, q3, rfl, rfl, rfl, h3, r3⟩ := trodAll_cons r2
  obtain ⟨v4, vs4, d4, ds4, p4, q4, rfl, rfl, rfl, h4, r4⟩ := trodAll_cons r3
  obtain ⟨v5, vs5, d5, ds5, p5, q5, rfl, rfl, rfl, h5, r5⟩ := trodAll_cons r4
  obtain ⟨rfl, rfl, rfl⟩ := trodAll_nil r5
  obtain rfl : args = #[v0, v1, v2, v3, v4, v5] := by cases args; simp_all
  obtain ⟨rfl, rfl⟩ := trodVars_none hV
  obtain ⟨a0, len0, cap0, rfl⟩ := okWide_slice Try.underlying59 (hval 0 59 v0 rfl rfl)
  have k0 := h0
  have lt0 : ∀ x ∈ p0, x.block < W.heap.size := by obtain ⟨m, hm⟩ := k0; exact DataW.trod_lt m _ _ _ hm
  have y0 := Zm.row_len hsz (j := 0) (t := 59) rfl rfl Try.underlying59 (of_decide_eq_true (by kernel_rfl)) h0
  obtain ⟨fu0, hf0⟩ := h0
  obtain ⟨e0, ok0, vv0⟩ := Zm.read_cells fu0 59 [.slice [.int .i64, .int .i64, .slice [.int .u8]]] _ _ (.slice (es := [.int .i64, .int .i64, .slice [.int .u8]]) Try.underlying59 (.struct (ss := [.int .i64, .int .i64, .slice [.int .u8]]) Try.underlying57 (.cons (ss := [.int .i64]) (.int Try.underlying3) rfl (by kernel_rfl) (.cons (ss := [.int .i64]) (.int Try.underlying3) rfl (by kernel_rfl) (.cons (ss := [.slice [.int .u8]]) (.slice (es := [.int .u8]) Try.underlying22 (.int Try.underlying5) (by kernel_rfl)) rfl (by kernel_rfl) .nil))) (by kernel_rfl)) (by kernel_rfl)) hf0
  obtain ⟨l0, er0, rfl, okc0, okn0⟩ := ok0.cons
  obtain rfl := okn0.nil
  have vr0 := vv0.2 0 _ _ rfl rfl
  obtain ⟨g0, rfl, q0⟩ := Go.Proofs.ZtLe.cells_of okc0
  have n0 := Zm.vr_row_len vr0
  obtain ⟨a1, rfl, rfl, rfl, w1⟩ := open_int Try.underlying3 (hval 1 3 v1 rfl rfl) h1
  have g1 := Zm.wf_range w1
  simp [IntKind.min, IntKind.max, IntKind.signed, IntKind.bits] at g1
  obtain ⟨a2, rfl, rfl, rfl, w2⟩ := open_int Try.underlying3 (hval 2 3 v2 rfl rfl) h2
  have g2 := Zm.wf_range w2
  simp [IntKind.min, IntKind.max, IntKind.signed, IntKind.bits] at g2
  obtain ⟨a3, len3, cap3, rfl⟩ := okWide_slice Try.underlying22 (hval 3 22 v3 rfl rfl)
  have k3 := h3
  have lt3 : ∀ x ∈ p3, x.block < W.heap.size := by obtain ⟨m, hm⟩ := k3; exact DataW.trod_lt m _ _ _ hm
  obtain ⟨y3, l3, e3, vr3⟩ := Zm.row_bytes hsz (j := 3) (t := 22) rfl rfl Try.underlying22 Try.underlying5 (by kernel_rfl) (by kernel_rfl) h3
  obtain ⟨a4, rfl, rfl, rfl, w4⟩ := open_int Try.underlying3 (hval 4 3 v4 rfl rfl) h4
  have g4 := Zm.wf_range w4
  simp [IntKind.min, IntKind.max, IntKind.signed, IntKind.bits] at g4
  obtain ⟨a5, rfl, rfl, rfl, w5⟩ := open_int Try.underlying5 (hval 5 5 v5 rfl rfl) h5
  have g5 := Zm.wf_range w5
  simp [IntKind.min, IntKind.max, IntKind.signed, IntKind.bits] at g5
  refine (Zm.entry Go.Proofs.ZtLe.tellsB_snd W _ _ (Zm.VRs.cons vr0 (Zm.VRs.cons (.v _) (Zm.VRs.cons (.v _) (Zm.VRs.cons vr3 (Zm.VRs.cons (.v _) (Zm.VRs.cons (.v _) (Zm.VRs.nil _))))))) ⟨g0, l3, 0, 0, a1, a2, a4, UInt8.ofNat a5.toNat, by rw [show ((UInt8.ofNat a5.toNat).toNat : Int) = a5 by simp; omega], by simp at n0; omega, by omega, rfl⟩).mono fun e W' ⟨he, bel⟩ => ?_
  subst he
  exact ⟨_, rfl, _, _, _, [], _, [], hW', trodAll_mk1 (shut_bool Try.underlying4 _), (trodAll_cons_mk (Below.trod laidOut (by kernel_rfl) (of_decide_eq_true (by kernel_rfl)) k0 bel lt0) (trodAll_cons_mk (shut_int Try.underlying3 w1) (trodAll_cons_mk (shut_int Try.underlying3 w2) (trodAll_cons_mk (Below.trod laidOut (by kernel_rfl) (of_decide_eq_true (by kernel_rfl)) k3 bel lt3) (trodAll_cons_mk (shut_int Try.underlying3 w4) (trodAll_cons_mk (shut_int Try.underlying5 w5) trodAll_mk0)))))), rfl, bel.frame _, fun h => by cases h⟩
theorem over : Rows.buckTellsRow.holds Try.pinned (OpenSpec.ofChange Rows.buckTellsSpec) :=
  OpenClaim.holds_of_wide 13 Try.f13 rfl rfl rfl rfl rfl rfl rfl ⟨rfl, rfl, rfl, rfl, rfl⟩ rfl rfl rfl rfl rfl (by kernel_rfl) Try.func13 (by kernel_rfl)
    (of_decide_eq_true (by kernel_rfl)) (by unfold Func.isWrapper; first | (rw [if_pos (by decide +kernel)]; kernel_rfl) | (rw [if_neg (by decide +kernel)]; exact ⟨rfl, rfl⟩))
    (fun os started H enc _ => lifted os started H enc)
theorem proved : Rows.BuckTellsSaid := over
#print axioms proved
end Go.Proofs.Ytpelekdimmfldaa.buckTells
namespace Go.Proofs.Ytpelekdimmfldaa
/-- The row, under a short name, for the claim. -/
theorem buckTells_holds : Rows.BuckTellsSaid := buckTells.proved
end Go.Proofs.Ytpelekdimmfldaa
