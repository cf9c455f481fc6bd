/- Numbers that are added to a key, one behind the other, come to their sum in that order, by its bits. No condition. -/
import Derived.Test.YtakicgmmpjmniaaRows
import Derived.Test.YtakicgmmpjmniaaZtUMesgAdds
import Derived.Test.YtakicgmmpjmniaaZmP1
import Derived.Test.YtakicgmmpjmniaaZmP2
import Derived.WalkKit
import Derived.ProofKit
import Derived.OpenShut
import Derived.ShutString
import Derived.ChangeOld
import Derived.Below
import Derived.SizedLaws
namespace Go.Proofs.Ytakicgmmpjmniaa.mesgAdds
open Go.ChangeShapes Go.WideShapes Go.ChangeAt Go.RowKit
open Go.ChangeMaps (open_string shut_string)
set_option linter.unusedVariables false
theorem own : ownKnob Try.prog.godebug = none := by kernel_rfl
theorem laidOut : laidOutB Try.prog = true := by kernel_rfl
set_option maxRecDepth 100000 in
theorem lifted (os : Os) (started : os.Started) (H : Type) (enc : TypeId × Value → H) :
    ReturnsInHanded {} Try.checked os 8 .any (Rows.mesgAddsSpec.pre6 enc Try.prog Try.f8 Rows.mesgAddsRow.domain false) (Rows.mesgAddsSpec.post enc Try.prog Try.f8 false true false false) := by
  refine returnsInHanded_of_change_sized (C := Try.checked) own started (by kernel_rfl) Try.func8
    (ChangeSpec.witness6 (enc := enc) (C := Try.checked) false ⟨#[], #[.slice none 0 0, .slice none 0 0, .bool false], []⟩ 8 (by kernel_rfl) (by kernel_rfl) (by kernel_rfl) (by kernel_rfl)) ?_
  intro W base args ds gs before hval0 hW hcnd hsz0 _
  have hsz : (DataW.weightsEach Try.prog (Try.f8.params.toList ++ Rows.mesgAddsSpec.plain.varTypes Try.prog) (ds ++ gs)).all (· ≤ reachBytes) = true := hsz0
  have hval : ∀ (j : Nat) t v, Try.f8.params[j]? = some t → args[j]? = some v → Value.okWide Try.prog W .any base t v := hval0
  have hW' := hW
  obtain ⟨p, q, hA0, hV, rfl, hfz, hnd⟩ := hW
  have hA : DataW.TrodAll enc Try.prog W 0 (fun _ => true) true Try.f8.params.toList args.toList ds p := hA0
  rw [Try.params8] at hA hval hsz
  obtain ⟨v0, vs0, d0, ds0, p0, q0, hargs, rfl, rfl, h0, r0⟩ := trodAll_cons hA
  obtain ⟨v1, vs1, d1, ds1, p1, q1, rfl, rfl, rfl, h1, r1⟩ := trodAll_cons r0
  obtain ⟨v2, vs2, d2, ds2, p2, q2, rfl, rfl, rfl, h2, r2⟩ := trodAll_cons r1
  obtain ⟨rfl, rfl, rfl⟩ := trodAll_nil r2
  obtain rfl : args = #[v0, v1, v2] := by cases args; simp_all
  obtain ⟨rfl, rfl⟩ := trodVars_none hV
  obtain ⟨a0, len0, cap0, rfl⟩ := okWide_slice Try.underlying60 (hval 0 60 v0 rfl rfl)
  have k0 := h0
  have lt0 : ∀ x ∈ p0, x.block < W.heap.size := by obtain ⟨m, hm⟩ := k0; exact DataW.trod_lt m _ _ _ hm
  have y0 := Zm.row_len hsz (j := 0) (t := 60) rfl rfl Try.underlying60 (of_decide_eq_true (by kernel_rfl)) h0
  have z0 := Zm.row_lenB hsz (j := 0) (t := 60) rfl rfl Try.underlying60 (show Try.prog.bytesOf 63 = 8 by kernel_rfl) h0
  obtain ⟨fu0, hf0⟩ := h0
  obtain ⟨e0, ok0, vv0⟩ := Zm.read_cells fu0 60 [.slice [.int .u64]] _ _ (.slice (es := [.int .u64]) Try.underlying60 (.int Try.underlying63) (by kernel_rfl)) hf0
  obtain ⟨l0, er0, rfl, okc0, okn0⟩ := ok0.cons
  obtain rfl := okn0.nil
  have vr0 := vv0.2 0 _ _ rfl rfl
  obtain ⟨g0, rfl, q0⟩ := ZtLe.u64s_of okc0
  have n0 := Zm.vr_row_len vr0
  obtain ⟨a1, len1, cap1, rfl⟩ := okWide_slice Try.underlying31 (hval 1 31 v1 rfl rfl)
  have k1 := h1
  have lt1 : ∀ x ∈ p1, x.block < W.heap.size := by obtain ⟨m, hm⟩ := k1; exact DataW.trod_lt m _ _ _ hm
  obtain ⟨y1, l1, e1, vr1⟩ := Zm.row_bytes hsz (j := 1) (t := 31) rfl rfl Try.underlying31 Try.underlying5 (by kernel_rfl) (by kernel_rfl) h1
  obtain ⟨a2, rfl, rfl, rfl⟩ := open_bool Try.underlying4 (hval 2 4 v2 rfl rfl) h2
  refine (Zm.entry ZtLe.adds_snd W _ _ (Zm.VRs.cons vr0 (Zm.VRs.cons vr1 (Zm.VRs.cons (.v _) (Zm.VRs.nil _)))) ⟨g0, l1, a2, 0, _, rfl, q0, by simp only [ZtLe.u64R_length] at n0; omega, rfl⟩).mono fun e W' ⟨he, bel⟩ => ?_
  subst he
  exact ⟨_, rfl, _, _, _, [], _, [], hW', trodAll_mk1 (shut_bool Try.underlying4 _), (trodAll_cons_mk (Below.trod laidOut (by kernel_rfl) (of_decide_eq_true (by kernel_rfl)) k0 bel lt0) (trodAll_cons_mk (Below.trod laidOut (by kernel_rfl) (of_decide_eq_true (by kernel_rfl)) k1 bel lt1) (trodAll_cons_mk (shut_bool Try.underlying4 _) trodAll_mk0))), rfl, bel.frame _, fun h => by cases h⟩
theorem over : Rows.mesgAddsRow.holds Try.pinned (OpenSpec.ofChange Rows.mesgAddsSpec) :=
  OpenClaim.holds_of_wide 8 Try.f8 rfl rfl rfl rfl rfl rfl rfl ⟨rfl, rfl, rfl, rfl, rfl⟩ rfl rfl rfl rfl rfl (by kernel_rfl) Try.func8 (by kernel_rfl)
    (of_decide_eq_true (by kernel_rfl)) (by unfold Func.isWrapper; first | (rw [if_pos (by decide +kernel)]; kernel_rfl) | (rw [if_neg (by decide +kernel)]; exact ⟨rfl, rfl⟩))
    (fun os started H enc _ => lifted os started H enc)
theorem proved : Rows.MesgAddsSaid := over
#print axioms proved
end Go.Proofs.Ytakicgmmpjmniaa.mesgAdds
namespace Go.Proofs.Ytakicgmmpjmniaa
/-- The row, under a short name, for the claim. -/
theorem mesgAdds_holds : Rows.MesgAddsSaid := mesgAdds.proved
end Go.Proofs.Ytakicgmmpjmniaa
