/- Kids are laid in as few nodes as there can be, in order, whose numbers differ by one at most; each key between them is the first one of the kid behind it. No condition. -/
import Derived.Test.YtjkocjjcdjjdiaaRows
import Derived.Test.YtjkocjjcdjjdiaaZtUInneBuilds
import Derived.Test.YtjkocjjcdjjdiaaZmP1
import Derived.Test.YtjkocjjcdjjdiaaZmP2
import Derived.WalkKit
import Derived.ProofKit
import Derived.OpenShut
import Derived.ShutString
import Derived.ChangeOld
import Derived.Below
import Derived.SizedLaws
namespace Go.Proofs.Ytjkocjjcdjjdiaa.inneBuilds
open Go.ChangeShapes Go.WideShapes Go.ChangeAt Go.RowKit
open Go.ChangeMaps (open_string shut_string)
set_option linter.unusedVariables false
theorem own : ownKnob Try.prog.godebug = none := by kernel_rfl
theorem laidOut : laidOutB Try.prog = true := by kernel_rfl
set_option maxRecDepth 100000 in
theorem lifted (os : Os) (started : os.Started) (H : Type) (enc : TypeId × Value → H) :
    ReturnsInHanded {} Try.checked os 8 .any (Rows.inneBuildsSpec.pre6 enc Try.prog Try.f8 Rows.inneBuildsRow.domain false) (Rows.inneBuildsSpec.post enc Try.prog Try.f8 false true false false) := by
  refine returnsInHanded_of_change_sized (C := Try.checked) own started (by kernel_rfl) Try.func8
    (ChangeSpec.witness6 (enc := enc) (C := Try.checked) false ⟨#[], #[.agg #[.int .i64 0, .int .i64 0, .int .i64 0, .int .i64 0, .int .i64 0, .int .i64 0, .int .i64 0, .int .i64 0, .int .i64 0, .float .f64 0], .int .i64 0], []⟩ 8 (by kernel_rfl) (by kernel_rfl) (by kernel_rfl) (by kernel_rfl)) ?_
  intro W base args ds gs before hval0 hW hcnd hsz0 _
  have hsz : (DataW.weightsEach Try.prog (Try.f8.params.toList ++ Rows.inneBuildsSpec.plain.varTypes Try.prog) (ds ++ gs)).all (· ≤ reachBytes) = true := hsz0
  have hval : ∀ (j : Nat) t v, Try.f8.params[j]? = some t → args[j]? = some v → Value.okWide Try.prog W .any base t v := hval0
  have hW' := hW
  obtain ⟨p, q, hA0, hV, rfl, hfz, hnd⟩ := hW
  have hA : DataW.TrodAll enc Try.prog W 0 (fun _ => true) true Try.f8.params.toList args.toList ds p := hA0
  rw [Try.params8] at hA hval hsz
  obtain ⟨v0, vs0, d0, ds0, p0, q0, hargs, rfl, rfl, h0, r0⟩ := trodAll_cons hA
  obtain ⟨v1, vs1, d1, ds1, p1, q1, rfl, rfl, rfl, h1, r1⟩ := trodAll_cons r0
  obtain ⟨rfl, rfl, rfl⟩ := trodAll_nil r1
  obtain rfl : args = #[v0, v1] := by cases args; simp_all
  obtain ⟨rfl, rfl⟩ := trodVars_none hV
  obtain ⟨a0, rfl, cs0⟩ := okWide_struct Try.underlying24 (hval 0 24 v0 rfl rfl)
  have k0 := h0
  have lt0 : ∀ x ∈ p0, x.block < W.heap.size := by obtain ⟨m, hm⟩ := k0; exact DataW.trod_lt m _ _ _ hm
  obtain ⟨fu0, hf0⟩ := h0
  obtain ⟨e0, ok0, vv0⟩ := Zm.read_cells fu0 24 [.int .i64, .int .i64, .int .i64, .int .i64, .int .i64, .int .i64, .int .i64, .int .i64, .int .i64, .float] _ _ (.struct (ss := [.int .i64, .int .i64, .int .i64, .int .i64, .int .i64, .int .i64, .int .i64, .int .i64, .int .i64, .float]) Try.underlying24 (.cons (ss := [.int .i64]) (.int Try.underlying3) rfl (by kernel_rfl) (.cons (ss := [.int .i64]) (.int Try.underlying3) rfl (by kernel_rfl) (.cons (ss := [.int .i64]) (.int Try.underlying3) rfl (by kernel_rfl) (.cons (ss := [.int .i64]) (.int Try.underlying3) rfl (by kernel_rfl) (.cons (ss := [.int .i64]) (.int Try.underlying3) rfl (by kernel_rfl) (.cons (ss := [.int .i64]) (.int Try.underlying3) rfl (by kernel_rfl) (.cons (ss := [.int .i64]) (.int Try.underlying3) rfl (by kernel_rfl) (.cons (ss := [.int .i64]) (.int Try.underlying3) rfl (by kernel_rfl) (.cons (ss := [.int .i64]) (.int Try.underlying3) rfl (by kernel_rfl) (.cons (ss := [.float]) (.float Try.underlying22) rfl (by kernel_rfl) .nil)))))))))) (by kernel_rfl)) hf0
  obtain ⟨g0, rfl, q0⟩ := ZtLe.cfg_of ok0
  have vr0 := Zm.vr_agg vv0
  obtain ⟨a1, rfl, rfl, rfl, w1⟩ := open_int Try.underlying3 (hval 1 3 v1 rfl rfl) h1
  have g1 := Zm.wf_range w1
  simp [IntKind.min, IntKind.max, IntKind.signed, IntKind.bits] at g1
  refine (Zm.entry ZtLe.builds_snd W _ _ (Zm.VRs.cons vr0 (Zm.VRs.cons (.v _) (Zm.VRs.nil _))) ⟨g0, _, rfl, rfl⟩).mono fun e W' ⟨he, bel⟩ => ?_
  subst he
  exact ⟨_, rfl, _, _, _, [], _, [], hW', trodAll_mk1 (shut_bool Try.underlying4 _), (trodAll_cons_mk (Below.trod laidOut (by kernel_rfl) (of_decide_eq_true (by kernel_rfl)) k0 bel lt0) (trodAll_cons_mk (shut_int Try.underlying3 w1) trodAll_mk0)), rfl, bel.frame _, fun h => by cases h⟩
theorem over : Rows.inneBuildsRow.holds Try.pinned (OpenSpec.ofChange Rows.inneBuildsSpec) :=
  OpenClaim.holds_of_wide 8 Try.f8 rfl rfl rfl rfl rfl rfl rfl ⟨rfl, rfl, rfl, rfl, rfl⟩ rfl rfl rfl rfl rfl (by kernel_rfl) Try.func8 (by kernel_rfl)
    (of_decide_eq_true (by kernel_rfl)) (by unfold Func.isWrapper; first | (rw [if_pos (by decide +kernel)]; kernel_rfl) | (rw [if_neg (by decide +kernel)]; exact ⟨rfl, rfl⟩))
    (fun os started H enc _ => lifted os started H enc)
theorem proved : Rows.InneBuildsSaid := over
#print axioms proved
end Go.Proofs.Ytjkocjjcdjjdiaa.inneBuilds
namespace Go.Proofs.Ytjkocjjcdjjdiaa
/-- The row, under a short name, for the claim. -/
theorem inneBuilds_holds : Rows.InneBuildsSaid := inneBuilds.proved
end Go.Proofs.Ytjkocjjcdjjdiaa
