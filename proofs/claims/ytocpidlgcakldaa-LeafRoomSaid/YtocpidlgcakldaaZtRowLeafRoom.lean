/- A leaf that took as many messages as come at once is one, or two, each with its room; what both hold is what the leaf held with the messages done; a leaf that was split, or built, takes as many new keys as G says ahead of being split. No condition. -/
import Derived.Test.YtocpidlgcakldaaRows
import Derived.Test.YtocpidlgcakldaaZtULeafRoom
import Derived.Test.YtocpidlgcakldaaZmP1
import Derived.Test.YtocpidlgcakldaaZmP2
import Derived.WalkKit
import Derived.ProofKit
import Derived.OpenShut
import Derived.ShutString
import Derived.ChangeOld
import Derived.Below
import Derived.SizedLaws
namespace Go.Proofs.Ytocpidlgcakldaa.leafRoom
open Go.ChangeShapes Go.WideShapes Go.ChangeAt Go.RowKit
open Go.ChangeMaps (open_string shut_string)
set_option linter.unusedVariables false
theorem own : ownKnob Try.prog.godebug = none := by kernel_rfl
theorem laidOut : laidOutB Try.prog = true := by kernel_rfl
set_option maxRecDepth 100000 in
theorem lifted (os : Os) (started : os.Started) (H : Type) (enc : TypeId × Value → H) :
    ReturnsInHanded {} Try.checked os 10 .any (Rows.leafRoomSpec.pre6 enc Try.prog Try.f10 Rows.leafRoomRow.domain false) (Rows.leafRoomSpec.post enc Try.prog Try.f10 false true false false) := by
  refine returnsInHanded_of_change_sized (C := Try.checked) own started (by kernel_rfl) Try.func10
    (ChangeSpec.witness6 (enc := enc) (C := Try.checked) false ⟨#[], #[.agg #[.int .i64 0, .int .i64 0, .int .i64 0, .int .i64 0, .int .i64 0, .int .i64 0, .int .i64 0, .int .i64 0, .int .i64 0, .float .f64 0], .slice none 0 0, .slice none 0 0], []⟩ 8 (by kernel_rfl) (by kernel_rfl) (by kernel_rfl) (by kernel_rfl)) ?_
  intro W base args ds gs before hval0 hW hcnd hsz0 _
  have hsz : (DataW.weightsEach Try.prog (Try.f10.params.toList ++ Rows.leafRoomSpec.plain.varTypes Try.prog) (ds ++ gs)).all (· ≤ reachBytes) = true := hsz0
  have hval : ∀ (j : Nat) t v, Try.f10.params[j]? = some t → args[j]? = some v → Value.okWide Try.prog W .any base t v := hval0
  have hW' := hW
  obtain ⟨p, q, hA0, hV, rfl, hfz, hnd⟩ := hW
  have hA : DataW.TrodAll enc Try.prog W 0 (fun _ => true) true Try.f10.params.toList args.toList ds p := hA0
  rw [Try.params10] at hA hval hsz
  obtain ⟨v0, vs0, d0, ds0, p0, q0, hargs, rfl, rfl, h0, r0⟩ := trodAll_cons hA
  obtain ⟨v1, vs1, d1, ds1, p1, q1, rfl, rfl, rfl, h1, r1⟩ := trodAll_cons r0
  obtain ⟨v2, vs2, d2, ds2, p2, q2, rfl, rfl, rfl, h2, r2⟩ := trodAll_cons r1
  obtain ⟨rfl, rfl, rfl⟩ := trodAll_nil r2
  obtain rfl : args = #[v0, v1, v2] := by cases args; simp_all
  obtain ⟨rfl, rfl⟩ := trodVars_none hV
  obtain ⟨a0, rfl, cs0⟩ := okWide_struct Try.underlying24 (hval 0 24 v0 rfl rfl)
  have k0 := h0
  have lt0 : ∀ x ∈ p0, x.block < W.heap.size := by obtain ⟨m, hm⟩ := k0; exact DataW.trod_lt m _ _ _ hm
  obtain ⟨fu0, hf0⟩ := h0
  obtain ⟨e0, ok0, vv0⟩ := Zm.read_cells fu0 24 [.int .i64, .int .i64, .int .i64, .int .i64, .int .i64, .int .i64, .int .i64, .int .i64, .int .i64, .float] _ _ (.struct (ss := [.int .i64, .int .i64, .int .i64, .int .i64, .int .i64, .int .i64, .int .i64, .int .i64, .int .i64, .float]) Try.underlying24 (.cons (ss := [.int .i64]) (.int Try.underlying3) rfl (by kernel_rfl) (.cons (ss := [.int .i64]) (.int Try.underlying3) rfl (by kernel_rfl) (.cons (ss := [.int .i64]) (.int Try.underlying3) rfl (by kernel_rfl) (.cons (ss := [.int .i64]) (.int Try.underlying3) rfl (by kernel_rfl) (.cons (ss := [.int .i64]) (.int Try.underlying3) rfl (by kernel_rfl) (.cons (ss := [.int .i64]) (.int Try.underlying3) rfl (by kernel_rfl) (.cons (ss := [.int .i64]) (.int Try.underlying3) rfl (by kernel_rfl) (.cons (ss := [.int .i64]) (.int Try.underlying3) rfl (by kernel_rfl) (.cons (ss := [.int .i64]) (.int Try.underlying3) rfl (by kernel_rfl) (.cons (ss := [.float]) (.float Try.underlying22) rfl (by kernel_rfl) .nil)))))))))) (by kernel_rfl)) hf0
  obtain ⟨g0, rfl, q0⟩ := ZtLe.cfg_of ok0
  have vr0 := Zm.vr_agg vv0
  obtain ⟨a1, len1, cap1, rfl⟩ := okWide_slice Try.underlying31 (hval 1 31 v1 rfl rfl)
  have k1 := h1
  have lt1 : ∀ x ∈ p1, x.block < W.heap.size := by obtain ⟨m, hm⟩ := k1; exact DataW.trod_lt m _ _ _ hm
  have y1 := Zm.row_len hsz (j := 1) (t := 31) rfl rfl Try.underlying31 (of_decide_eq_true (by kernel_rfl)) h1
  have z1 := Zm.row_lenB hsz (j := 1) (t := 31) rfl rfl Try.underlying31 (show Try.prog.bytesOf 3 = 8 by kernel_rfl) h1
  obtain ⟨fu1, hf1⟩ := h1
  obtain ⟨e1, ok1, vv1⟩ := Zm.read_cells fu1 31 [.slice [.int .i64]] _ _ (.slice (es := [.int .i64]) Try.underlying31 (.int Try.underlying3) (by kernel_rfl)) hf1
  obtain ⟨l1, er1, rfl, okc1, okn1⟩ := ok1.cons
  obtain rfl := okn1.nil
  have vr1 := vv1.2 0 _ _ rfl rfl
  obtain ⟨g1, rfl, q1⟩ := ZtLe.ints_of okc1
  have n1 := Zm.vr_row_len vr1
  obtain ⟨a2, len2, cap2, rfl⟩ := okWide_slice Try.underlying31 (hval 2 31 v2 rfl rfl)
  have k2 := h2
  have lt2 : ∀ x ∈ p2, x.block < W.heap.size := by obtain ⟨m, hm⟩ := k2; exact DataW.trod_lt m _ _ _ hm
  have y2 := Zm.row_len hsz (j := 2) (t := 31) rfl rfl Try.underlying31 (of_decide_eq_true (by kernel_rfl)) h2
  have z2 := Zm.row_lenB hsz (j := 2) (t := 31) rfl rfl Try.underlying31 (show Try.prog.bytesOf 3 = 8 by kernel_rfl) h2
  obtain ⟨fu2, hf2⟩ := h2
  obtain ⟨e2, ok2, vv2⟩ := Zm.read_cells fu2 31 [.slice [.int .i64]] _ _ (.slice (es := [.int .i64]) Try.underlying31 (.int Try.underlying3) (by kernel_rfl)) hf2
  obtain ⟨l2, er2, rfl, okc2, okn2⟩ := ok2.cons
  obtain rfl := okn2.nil
  have vr2 := vv2.2 0 _ _ rfl rfl
  obtain ⟨g2, rfl, q2⟩ := ZtLe.ints_of okc2
  have n2 := Zm.vr_row_len vr2
  refine (Zm.entry ZtLe.room_snd W _ _ (Zm.VRs.cons vr0 (Zm.VRs.cons vr1 (Zm.VRs.cons vr2 (Zm.VRs.nil _)))) ⟨g0, g1, g2, 0, 0, rfl, by simp only [Zm.intR_length] at n1; omega, by simp only [Zm.intR_length] at n2; omega, rfl⟩).mono fun e W' ⟨he, bel⟩ => ?_
  subst he
  exact ⟨_, rfl, _, _, _, [], _, [], hW', trodAll_mk1 (shut_bool Try.underlying4 _), (trodAll_cons_mk (Below.trod laidOut (by kernel_rfl) (of_decide_eq_true (by kernel_rfl)) k0 bel lt0) (trodAll_cons_mk (Below.trod laidOut (by kernel_rfl) (of_decide_eq_true (by kernel_rfl)) k1 bel lt1) (trodAll_cons_mk (Below.trod laidOut (by kernel_rfl) (of_decide_eq_true (by kernel_rfl)) k2 bel lt2) trodAll_mk0))), rfl, bel.frame _, fun h => by cases h⟩
theorem over : Rows.leafRoomRow.holds Try.pinned (OpenSpec.ofChange Rows.leafRoomSpec) :=
  OpenClaim.holds_of_wide 10 Try.f10 rfl rfl rfl rfl rfl rfl rfl ⟨rfl, rfl, rfl, rfl, rfl⟩ rfl rfl rfl rfl rfl (by kernel_rfl) Try.func10 (by kernel_rfl)
    (of_decide_eq_true (by kernel_rfl)) (by unfold Func.isWrapper; first | (rw [if_pos (by decide +kernel)]; kernel_rfl) | (rw [if_neg (by decide +kernel)]; exact ⟨rfl, rfl⟩))
    (fun os started H enc _ => lifted os started H enc)
theorem proved : Rows.LeafRoomSaid := over
#print axioms proved
end Go.Proofs.Ytocpidlgcakldaa.leafRoom
namespace Go.Proofs.Ytocpidlgcakldaa
/-- The row, under a short name, for the claim. -/
theorem leafRoom_holds : Rows.LeafRoomSaid := leafRoom.proved
end Go.Proofs.Ytocpidlgcakldaa
