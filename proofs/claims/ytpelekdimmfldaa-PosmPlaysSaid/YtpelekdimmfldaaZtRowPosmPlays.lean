/- Places are set, cleared, told and loaded as the document says; bytes that no map tells are not loaded, and turn nothing. No condition. -/
import Derived.Test.YtpelekdimmfldaaRows
import Derived.Test.YtpelekdimmfldaaZtPoO
import Derived.Test.YtpelekdimmfldaaZm12
import Derived.Test.YtpelekdimmfldaaZm26
import Derived.WalkKit
import Derived.ProofKit
import Derived.OpenShut
import Derived.ShutString
import Derived.ChangeOld
import Derived.Below
import Derived.SizedLaws
namespace Go.Proofs.Ytpelekdimmfldaa.posmPlays
open Go.ChangeShapes Go.WideShapes Go.ChangeAt Go.RowKit
open Go.ChangeMaps (open_string shut_string)
set_option linter.unusedVariables false
theorem own : ownKnob Try.prog.godebug = none := by kernel_rfl
theorem laidOut : laidOutB Try.prog = true := by kernel_rfl
set_option maxRecDepth 100000 in
theorem lifted (os : Os) (started : os.Started) (H : Type) (enc : TypeId × Value → H) :
    ReturnsInHanded {} Try.checked os 10 .any (Rows.posmPlaysSpec.pre6 enc Try.prog Try.f10 Rows.posmPlaysRow.domain false) (Rows.posmPlaysSpec.post enc Try.prog Try.f10 false true false false) := by
  refine returnsInHanded_of_change_sized (C := Try.checked) own started (by kernel_rfl) Try.func10
    (ChangeSpec.witness6 (enc := enc) (C := Try.checked) false ⟨#[], #[.int .i64 0, .slice none 0 0, .slice none 0 0, .int .i64 0, .int .u8 0], []⟩ 8 (by kernel_rfl) (by kernel_rfl) (by kernel_rfl) (by kernel_rfl)) ?_
  intro W base args ds gs before hval0 hW hcnd hsz0 _
  have hsz : (DataW.weightsEach Try.prog (Try.f10.params.toList ++ Rows.posmPlaysSpec.plain.varTypes Try.prog) (ds ++ gs)).all (· ≤ reachBytes) = true := hsz0
  have hval : ∀ (j : Nat) t v, Try.f10.params[j]? = some t → args[j]? = some v → Value.okWide Try.prog W .any base t v := hval0
  have hW' := hW
  obtain ⟨p, q, hA0, hV, rfl, hfz, hnd⟩ := hW
  have hA : DataW.TrodAll enc Try.prog W 0 (fun _ => true) true Try.f10.params.toList args.toList ds p := hA0
  rw [Try.params10] at hA hval hsz
  obtain ⟨v0, vs0, d0, ds0, p0, q0, hargs, rfl, rfl, h0, r0⟩ := trodAll_cons hA
  obtain ⟨v1, vs1, d1, ds1, p1, q1, rfl, rfl, rfl, h1, r1⟩ := trodAll_cons r0
  obtain ⟨v2, vs2, d2, ds2, p2, q2, rfl, rfl, rfl, h2, r2⟩ := trodAll_cons r1
  obtain ⟨v3, vs3, d3, ds3, p3, q3, rfl, rfl, rfl, h3, r3⟩ := trodAll_cons r2
  obtain ⟨v4, vs4, d4, ds4, p4, q4, rfl, rfl, rfl, h4, r4⟩ := trodAll_cons r3
  obtain ⟨rfl, rfl, rfl⟩ := trodAll_nil r4
  obtain rfl : args = #[v0, v1, v2, v3, v4] := by cases args; simp_all
  obtain ⟨rfl, rfl⟩ := trodVars_none hV
  obtain ⟨a0, rfl, rfl, rfl, w0⟩ := open_int Try.underlying3 (hval 0 3 v0 rfl rfl) h0
  have g0 := Zm.wf_range w0
  simp [IntKind.min, IntKind.max, IntKind.signed, IntKind.bits] at g0
  obtain ⟨a1, len1, cap1, rfl⟩ := okWide_slice Try.underlying50 (hval 1 50 v1 rfl rfl)
  have k1 := h1
  have lt1 : ∀ x ∈ p1, x.block < W.heap.size := by obtain ⟨m, hm⟩ := k1; exact DataW.trod_lt m _ _ _ hm
  have y1 := Zm.row_len hsz (j := 1) (t := 50) rfl rfl Try.underlying50 (of_decide_eq_true (by kernel_rfl)) h1
  obtain ⟨fu1, hf1⟩ := h1
  obtain ⟨e1, ok1, vv1⟩ := Zm.read_cells fu1 50 [.slice [.int .i64, .int .i64, .int .i64, .int .u64]] _ _ (.slice (es := [.int .i64, .int .i64, .int .i64, .int .u64]) Try.underlying50 (.struct (ss := [.int .i64, .int .i64, .int .i64, .int .u64]) Try.underlying54 (.cons (ss := [.int .i64]) (.int Try.underlying3) rfl (by kernel_rfl) (.cons (ss := [.int .i64]) (.int Try.underlying3) rfl (by kernel_rfl) (.cons (ss := [.int .i64, .int .u64]) (.struct (ss := [.int .i64, .int .u64]) Try.underlying41 (.cons (ss := [.int .i64]) (.int Try.underlying3) rfl (by kernel_rfl) (.cons (ss := [.int .u64]) (.int Try.underlying28) rfl (by kernel_rfl) .nil)) (by kernel_rfl)) rfl (by kernel_rfl) .nil))) (by kernel_rfl)) (by kernel_rfl)) hf1
  obtain ⟨l1, er1, rfl, okc1, okn1⟩ := ok1.cons
  obtain rfl := okn1.nil
  have vr1 := vv1.2 0 _ _ rfl rfl
  obtain ⟨g1, rfl, q1⟩ := Go.Proofs.ZtLe.steps_of okc1
  have n1 := Zm.vr_row_len vr1
  obtain ⟨a2, len2, cap2, rfl⟩ := okWide_slice Try.underlying22 (hval 2 22 v2 rfl rfl)
  have k2 := h2
  have lt2 : ∀ x ∈ p2, x.block < W.heap.size := by obtain ⟨m, hm⟩ := k2; exact DataW.trod_lt m _ _ _ hm
  obtain ⟨y2, l2, e2, vr2⟩ := Zm.row_bytes hsz (j := 2) (t := 22) rfl rfl Try.underlying22 Try.underlying5 (by kernel_rfl) (by kernel_rfl) h2
  obtain ⟨a3, rfl, rfl, rfl, w3⟩ := open_int Try.underlying3 (hval 3 3 v3 rfl rfl) h3
  have g3 := Zm.wf_range w3
  simp [IntKind.min, IntKind.max, IntKind.signed, IntKind.bits] at g3
  obtain ⟨a4, rfl, rfl, rfl, w4⟩ := open_int Try.underlying5 (hval 4 5 v4 rfl rfl) h4
  have g4 := Zm.wf_range w4
  simp [IntKind.min, IntKind.max, IntKind.signed, IntKind.bits] at g4
  refine (Zm.entry Go.Proofs.ZtLe.plays_snd W _ _ (Zm.VRs.cons (.v _) (Zm.VRs.cons vr1 (Zm.VRs.cons vr2 (Zm.VRs.cons (.v _) (Zm.VRs.cons (.v _) (Zm.VRs.nil _)))))) ⟨a0, g1, 0, l2, 0, a3, UInt8.ofNat a4.toNat, by rw [show ((UInt8.ofNat a4.toNat).toNat : Int) = a4 by simp; omega], q1, by simp at n1; omega, by omega, rfl⟩).mono fun e W' ⟨he, bel⟩ => ?_
  subst he
  exact ⟨_, rfl, _, _, _, [], _, [], hW', trodAll_mk1 (shut_bool Try.underlying4 _), (trodAll_cons_mk (shut_int Try.underlying3 w0) (trodAll_cons_mk (Below.trod laidOut (by kernel_rfl) (of_decide_eq_true (by kernel_rfl)) k1 bel lt1) (trodAll_cons_mk (Below.trod laidOut (by kernel_rfl) (of_decide_eq_true (by kernel_rfl)) k2 bel lt2) (trodAll_cons_mk (shut_int Try.underlying3 w3) (trodAll_cons_mk (shut_int Try.underlying5 w4) trodAll_mk0))))), rfl, bel.frame _, fun h => by cases h⟩
theorem over : Rows.posmPlaysRow.holds Try.pinned (OpenSpec.ofChange Rows.posmPlaysSpec) :=
  OpenClaim.holds_of_wide 10 Try.f10 rfl rfl rfl rfl rfl rfl rfl ⟨rfl, rfl, rfl, rfl, rfl⟩ rfl rfl rfl rfl rfl (by kernel_rfl) Try.func10 (by kernel_rfl)
    (of_decide_eq_true (by kernel_rfl)) (by unfold Func.isWrapper; first | (rw [if_pos (by decide +kernel)]; kernel_rfl) | (rw [if_neg (by decide +kernel)]; exact ⟨rfl, rfl⟩))
    (fun os started H enc _ => lifted os started H enc)
theorem proved : Rows.PosmPlaysSaid := over
#print axioms proved
end Go.Proofs.Ytpelekdimmfldaa.posmPlays
namespace Go.Proofs.Ytpelekdimmfldaa
/-- The row, under a short name, for the claim. -/
theorem posmPlays_holds : Rows.PosmPlaysSaid := posmPlays.proved
end Go.Proofs.Ytpelekdimmfldaa
