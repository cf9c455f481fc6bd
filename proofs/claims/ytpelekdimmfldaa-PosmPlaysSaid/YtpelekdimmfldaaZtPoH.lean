/- A part of the proof of PosmPlays: walks of the functions that it reaches. No condition. -/
import Derived.Test.YtpelekdimmfldaaZtPoF
namespace Go.Proofs.ZtLe
open Go.RowKit Go.Proofs Go.Proofs.Zm
set_option linter.unusedVariables false
set_option linter.unusedSimpArgs false
set_option maxHeartbeats 20000000
attribute [local irreducible] ZWp ZOps ZPure ZPure0 ZVal ZOp SoundF
theorem sz_Strs : (Try.prog.info? 47).map (·.size) = some 1 := by kernel_rfl
theorem ii_Strs : ∃ i, Try.prog.info? 47 = some i ∧ i.size = 1 := Option.map_eq_some_iff.1 sz_Strs
theorem el_Strs : ElemOk Try.prog 47 1 24 [.v (.slice none 0 0)] := by
  refine ⟨?_, by decide, by decide⟩
  have h : (Try.prog.info? 47).map (fun i => (i.size, i.bytes, i.zero)) = some (1, 24, some (.slice none 0 0)) := by kernel_rfl
  obtain ⟨i, hi, he⟩ := Option.map_eq_some_iff.1 h
  simp only [Prod.mk.injEq] at he
  exact ⟨i, .slice none 0 0, hi, he.1, he.2.1, he.2.2, rfl, rfl⟩
theorem sh_Strs : shapeIs Try.prog 47 false 1 := shape_one Try.underlying47 trivial sz_Strs
theorem sz_Str : (Try.prog.info? 9).map (·.size) = some 1 := by kernel_rfl
theorem ii_Str : ∃ i, Try.prog.info? 9 = some i ∧ i.size = 1 := Option.map_eq_some_iff.1 sz_Str
theorem el_Str : ElemOk Try.prog 9 1 16 [.v (.string ⟨#[]⟩)] := by
  refine ⟨?_, by decide, by decide⟩
  have h : (Try.prog.info? 9).map (fun i => (i.size, i.bytes, i.zero)) = some (1, 16, some (.string ⟨#[]⟩)) := by kernel_rfl
  obtain ⟨i, hi, he⟩ := Option.map_eq_some_iff.1 h
  simp only [Prod.mk.injEq] at he
  exact ⟨i, .string ⟨#[]⟩, hi, he.1, he.2.1, he.2.2, rfl, rfl⟩
theorem sh_Str : shapeIs Try.prog 9 false 1 := shape_one Try.underlying9 trivial sz_Str
theorem pt_Map : Try.prog.underlying 37 = some (.pointer (Try.prog.pointee 37)) := by kernel_rfl

/-! ### plain -/
theorem okM_one (f : Int) (h0 : 0 ≤ f) (h1 : f < 65536) : okM [(0, 0), (0, 0)] 1 f = true := by
  unfold okM hasM
  refine decide_eq_true ⟨by decide, h0, by omega⟩
theorem setM_one (f d : Int) (h0 : 0 ≤ f) (h1 : f < 65536) : setM [(0, 0), (0, 0)] 1 f d = [(f + 1, d), (0, 0)] := by
  unfold setM
  rw [okM_one f h0 h1, if_pos rfl]; rfl
theorem stateM_two (f d : Int) : stateM [(f + 1, d), (0, 0)] = (putB (f + 1) 4 ++ putB d 8) ++ List.replicate 12 0 := by
  have h : putB 0 4 ++ putB 0 8 = List.replicate 12 0 := by decide +kernel
  unfold stateM
  simp only [List.flatMap_cons, List.flatMap_nil, List.append_nil, h]
theorem get_putB4 (a : Int) (h0 : 0 ≤ a) (h1 : a < 4294967296) : get (putB a 4) = a := by
  rw [get_short _ (by rw [putB4_length]; omega)]
  unfold putB
  rw [if_pos (by omega), num_put _ _ h0]
  have : (256 : Int) ^ (Int.toNat 4) = 4294967296 := by decide
  rw [this]; omega
theorem get_putB8 (a : Int) (h0 : 0 ≤ a) (h1 : a < 18446744073709551616) : get (putB a 8) = a := by
  rw [get_short _ (by rw [putB8_length]; omega)]
  unfold putB
  rw [if_pos (by omega), num_put _ _ h0]
  have : (256 : Int) ^ (Int.toNat 8) = 18446744073709551616 := by decide
  rw [this]; omega
theorem entL_0 (a d : Int) (B : List UInt8) (h0 : 0 ≤ a) (h1 : a < 4294967296) (h2 : 0 ≤ d) (h3 : d < 18446744073709551616) : entL (putB a 4 ++ putB d 8 ++ B) 0 = (a, d) := by
  unfold entL
  rw [Nat.mul_zero, List.drop_zero]
  have e1 : (putB a 4 ++ putB d 8 ++ B).take 4 = putB a 4 := by
    rw [List.append_assoc, List.take_append_of_le_length (by rw [putB4_length]; omega), List.take_of_length_le (by rw [putB4_length]; omega)]
  have e2 : ((putB a 4 ++ putB d 8 ++ B).take 12).drop 4 = putB d 8 := by
    rw [List.take_append_of_le_length (by rw [List.length_append, putB4_length, putB8_length]; omega), List.take_of_length_le (by rw [List.length_append, putB4_length, putB8_length]; omega), List.drop_append_of_le_length (by rw [putB4_length]; omega), List.drop_eq_nil_of_le (by rw [putB4_length]; omega), List.nil_append]
  rw [e1, e2, get_putB4 a h0 h1, get_putB8 d h2 h3]
theorem entL_1 (a d : Int) (B : List UInt8) : entL (putB a 4 ++ putB d 8 ++ B) 1 = (get (B.take 4), get ((B.take 12).drop 4)) := by
  unfold entL
  have e : (putB a 4 ++ putB d 8 ++ B).drop (12 * 1) = B := by
    rw [List.drop_append, List.drop_eq_nil_of_le (by rw [List.length_append, putB4_length, putB8_length]; omega), List.nil_append, List.length_append, putB4_length, putB8_length]; rfl
  rw [e]
theorem loadM_two (a d : Int) (B : List UInt8) (hB : B.length = 12) (h0 : 0 ≤ a) (h1 : a < 4294967296) (h2 : 0 ≤ d) (h3 : d < 18446744073709551616) :
    loadM 2 (putB a 4 ++ putB d 8 ++ B) = if okE (a, d) = true ∧ okE (get (B.take 4), get ((B.take 12).drop 4)) = true then some [(a, d), (get (B.take 4), get ((B.take 12).drop 4))] else none := by
  unfold loadM
  have e : List.range 2 = [0, 1] := by decide
  have hl : (putB a 4 ++ putB d 8 ++ B).length = 12 * 2 := by rw [List.length_append, List.length_append, putB4_length, putB8_length, hB]
  rw [e]
  simp only [List.all_cons, List.all_nil, Bool.and_true, List.map_cons, List.map_nil, entL_0 a d B h0 h1 h2 h3, entL_1 a d B, Bool.and_eq_true, hl, true_and]
theorem loadM_len (n : Nat) (b : List UInt8) (h : b.length ≠ 12 * n) : loadM n b = none := by unfold loadM; exact if_neg fun hh => h hh.1
end Go.Proofs.ZtLe
