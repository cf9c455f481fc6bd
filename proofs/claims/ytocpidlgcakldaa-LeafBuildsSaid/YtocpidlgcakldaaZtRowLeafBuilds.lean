/- Pairs are laid in leaves in order, each as full as the next, but for the last one; all of them are there; of none there is one leaf. No condition. -/
import Derived.Test.YtocpidlgcakldaaRows
import Derived.Test.YtocpidlgcakldaaZtULeafBuilds
import Derived.Test.YtocpidlgcakldaaZmP1
import Derived.Test.YtocpidlgcakldaaZmP2
import Derived.WalkKit
import Derived.ProofKit
import Derived.OpenShut
import Derived.ShutString
import Derived.ChangeOld
import Derived.Below
import Derived.SizedLaws
namespace Go.Proofs.Ytocpidlgcakldaa.leafBuilds
open Go.ChangeShapes Go.WideShapes Go.ChangeAt Go.RowKit
open Go.ChangeMaps (open_string shut_string)
set_option linter.unusedVariables false
theorem own : ownKnob Try.prog.godebug = none := by kernel_rfl
theorem laidOut : laidOutB Try.prog = true := by kernel_rfl
set_option maxRecDepth 100000 in
theorem lifted (os : Os) (started : os.Started) (H : Type) (enc : TypeId × Value → H) :
    ReturnsInHanded {} Try.checked os 7 .any (Rows.leafBuildsSpec.pre6 enc Try.prog Try.f7 Rows.leafBuildsRow.domain false) (Rows.leafBuildsSpec.post enc Try.prog Try.f7 false true false false) := by
  refine returnsInHanded_of_change_sized (C := Try.checked) own started (by kernel_rfl) Try.func7
    (ChangeSpec.witness6 (enc := enc) (C := Try.checked) false ⟨#[], #[.agg #[.int .i64 0, .int .i64 0, .int .i64 0, .int .i64 0, .int .i64 0, .int .i64 0, .int .i64 0, .int .i64 0, .int .i64 0, .float .f64 0], .slice none 0 0], []⟩ 8 (by kernel_rfl) (by kernel_rfl) (by kernel_rfl) (by kernel_rfl)) ?_
  intro W base args ds gs before hval0 hW hcnd hsz0 _
  have hsz : (DataW.weightsEach Try.prog (Try.f7.params.toList ++ Rows.leafBuildsSpec.plain.varTypes Try.prog) (ds ++ gs)).all (· ≤ reachBytes) = true := hsz0
  have hval : ∀ (j : Nat) t v, Try.f7.params[j]? = some t → args[j]? = some v → Value.okWide Try.prog W .any base t v := hval0
  have hW' := hW
  obtain ⟨p, q, hA0, hV, rfl, hfz, hnd⟩ := hW
  have hA : DataW.TrodAll enc Try.prog W 0 (fun _ => true) true Try.f7.params.toList args.toList ds p := hA0
  rw [Try.params7] at hA hval hsz
  obtain ⟨v0, vs0, d0, ds0, p0, q0, hargs, rfl, rfl, h0, r0⟩ := trodAll_cons hA
  obtain ⟨v1, vs1, d1, ds1, p1, q1, rfl, rfl, rfl, h1, r1⟩ := trodAll_cons r0
  obtain ⟨rfl, rfl, rfl⟩ := trodAll_nil r1
  obtain rfl : args = #[v0, v1] := by cases args; simp_all
  obtain ⟨rfl, rfl⟩ := trodVars_none hV
  obtain ⟨a0, rfl, cs0⟩ := okWide_struct Try.underlying24 (hval 0 24 v0 rfl rfl)
  have k0 := h0
  have lt0 : ∀ x ∈ p0, x.block < W.heap.size := by obtain ⟨m, hm⟩ := k0; exact DataW.trod_lt m _ _ _ hm
  obtain ⟨fu0, hf0⟩ := h0
  obtain ⟨e0, ok0, vv0⟩ := Zm.read_cells fu0 24 [.int .i64, .int .i64, .int .i64, .int .i64, .int .i64, .int .i64, .int .i64, .int .i64, .int .i64, .float] _ _ (.struct (ss := [.int .i64, .int .i64, .int .i64, .int .i64, .int .i64, .int .i64, .int .i64, .int .i64, .int .i64, .float]) Try.underlying24 (.cons (ss := [.int .i64]) (.int Try.underlying3) rfl (by kernel_rfl) (.cons (ss := [.int .i64]) (.int Try.underlying3) rfl (by kernel_rfl) (.cons (ss := [.int .i64]) (.int Try.underlying3) rfl (by kernel_rfl) (.cons (ss := [.int .i64]) (.int Try.underlying3) rfl (by kernel_rfl) (.cons (ss := [.int .i64]) (.int Try.underlying3) rfl (by kernel_rfl) (.cons (ss := [.int .i64]) (.int Try.underlying3) rfl (by kernel_rfl) (.cons (ss := [.int .i64]) (.int Try.underlying3) rfl (by kernel_rfl) (.cons (ss := [.int .i64]) (.int Try.underlying3) rfl (by kernel_rfl) (.cons (ss := [.int .i64]) (.int Try.underlying3) rfl (by kernel_rfl) (.cons (ss := [.float]) (.float Try.underlying22) rfl (by kernel_rfl) .nil)))))))))) (by kernel_rfl)) hf0
  obtain ⟨g0, rfl, q0⟩ := ZtLe.cfg_of ok0
  have vr0 := Zm.vr_agg vv0
  obtain ⟨a1, len1, cap1, rfl⟩ := okWide_slice Try.underlying31 (hval 1 31 v1 rfl rfl)
  have k1 := h1
  have lt1 : ∀ x ∈ p1, x.block < W.heap.size := by obtain ⟨m, hm⟩ := k1; exact DataW.trod_lt m _ _ _ hm
  have y1 := Zm.row_len hsz (j := 1) (t := 31) rfl rfl Try.underlying31 (of_decide_eq_true (by kernel_rfl)) h1
  have z1 := Zm.row_lenB hsz (j := 1) (t := 31) rfl rfl Try.underlying31 (show Try.prog.bytesOf 3 = 8 by kernel_rfl) h1
  obtain ⟨fu1, hf1⟩ := h1
  obtain ⟨e1, ok1, vv1⟩ := Zm.read_cells fu1 31 [.slice [.int .i64]] _ _ (.slice (es := [.int .i64]) Try.underlying31 (.int Try.underlying3) (by kernel_rfl)) hf1
  obtain ⟨l1, er1, rfl, okc1, okn1⟩ := ok1.cons
  obtain rfl := okn1.nil
  have vr1 := vv1.2 0 _ _ rfl rfl
  obtain ⟨g1, rfl, q1⟩ := ZtLe.ints_of okc1
  have n1 := Zm.vr_row_len vr1
  refine (Zm.entry ZtLe.builds21_snd W _ _ (Zm.VRs.cons vr0 (Zm.VRs.cons vr1 (Zm.VRs.nil _))) ⟨g0, g1, 0, rfl, by simp only [Zm.intR_length] at n1; omega, rfl⟩).mono fun e W' ⟨he, bel⟩ => ?_
  subst he
  exact ⟨_, rfl, _, _, _, [], _, [], hW', trodAll_mk1 (shut_bool Try.underlying4 _), (trodAll_cons_mk (Below.trod laidOut (by kernel_rfl) (of_decide_eq_true (by kernel_rfl)) k0 bel lt0) (trodAll_cons_mk (Below.trod laidOut (by kernel_rfl) (of_decide_eq_true (by kernel_rfl)) k1 bel lt1) trodAll_mk0)), rfl, bel.frame _, fun h => by cases h⟩
theorem over : Rows.leafBuildsRow.holds Try.pinned (OpenSpec.ofChange Rows.leafBuildsSpec) :=
  OpenClaim.holds_of_wide 7 Try.f7 rfl rfl rfl rfl rfl rfl rfl ⟨rfl, rfl, rfl, rfl, rfl⟩ rfl rfl rfl rfl rfl (by kernel_rfl) Try.func7 (by kernel_rfl)
    (of_decide_eq_true (by kernel_rfl)) (by unfold Func.isWrapper; first | (rw [if_pos (by decide +kernel)]; kernel_rfl) | (rw [if_neg (by decide +kernel)]; exact ⟨rfl, rfl⟩))
    (fun os started H enc _ => lifted os started H enc)
theorem proved : Rows.LeafBuildsSaid := over
#print axioms proved
end Go.Proofs.Ytocpidlgcakldaa.leafBuilds
namespace Go.Proofs.Ytocpidlgcakldaa
/-- The row, under a short name, for the claim. -/
theorem leafBuilds_holds : Rows.LeafBuildsSaid := leafBuilds.proved
end Go.Proofs.Ytocpidlgcakldaa
