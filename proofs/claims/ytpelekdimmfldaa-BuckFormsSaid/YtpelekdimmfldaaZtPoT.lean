/- A part of the proof of PosmBounds: walks of the functions that it reaches. No condition. -/
import Derived.Test.YtpelekdimmfldaaZtLeK
import Derived.Test.YtpelekdimmfldaaZm20
namespace Go.Proofs.ZtLe
open Go.RowKit Go.Proofs Go.Proofs.Zm
set_option linter.unusedVariables false
set_option linter.unusedSimpArgs false
set_option maxHeartbeats 20000000
attribute [local irreducible] ZWp ZOps ZPure ZPure0 ZVal ZOp SoundF
theorem sz_Pos : (Try.prog.info? 41).map (·.size) = some 2 := by kernel_rfl
theorem ii_Pos : ∃ i, Try.prog.info? 41 = some i ∧ i.size = 2 := Option.map_eq_some_iff.1 sz_Pos
theorem el_Pos : ElemOk Try.prog 41 2 16 [.v (.int .i64 0), .v (.int .u64 0)] := by
  refine ⟨?_, by decide, by decide⟩
  have h : (Try.prog.info? 41).map (fun i => (i.size, i.bytes, i.zero)) = some (2, 16, some (.agg #[.int .i64 0, .int .u64 0])) := by kernel_rfl
  obtain ⟨i, hi, he⟩ := Option.map_eq_some_iff.1 h
  simp only [Prod.mk.injEq] at he
  exact ⟨i, .agg #[.int .i64 0, .int .u64 0], hi, he.1, he.2.1, he.2.2, rfl, rfl⟩
theorem sh_Pos : shapeIs Try.prog 41 true 2 := ⟨ii_Pos, fun w => by simp [isAgg, run_underlying Try.underlying41], fun h => by cases h⟩
theorem fld_Pos_0 : fieldIs Try.prog 41 0 0 := by
  have h : (Try.prog.info? 3).map (·.size) = some 1 := by kernel_rfl
  obtain ⟨i, hi, hk⟩ := Option.map_eq_some_iff.1 h
  exact ⟨_, _, i, Try.underlying41, rfl, rfl, hi, by rw [hk]; decide⟩
theorem fld_Pos_1 : fieldIs Try.prog 41 1 1 := by
  have h : (Try.prog.info? 28).map (·.size) = some 1 := by kernel_rfl
  obtain ⟨i, hi, hk⟩ := Option.map_eq_some_iff.1 h
  exact ⟨_, _, i, Try.underlying41, rfl, rfl, hi, by rw [hk]; decide⟩
theorem st_Pos : structIs Try.prog 41 [(0, 1), (1, 1)] := ⟨_, Try.underlying41, by kernel_rfl, by kernel_rfl⟩
theorem sz_Poss : (Try.prog.info? 74).map (·.size) = some 1 := by kernel_rfl
theorem ii_Poss : ∃ i, Try.prog.info? 74 = some i ∧ i.size = 1 := Option.map_eq_some_iff.1 sz_Poss
theorem el_Poss : ElemOk Try.prog 74 1 24 [.v (.slice none 0 0)] := by
  refine ⟨?_, by decide, by decide⟩
  have h : (Try.prog.info? 74).map (fun i => (i.size, i.bytes, i.zero)) = some (1, 24, some (.slice none 0 0)) := by kernel_rfl
  obtain ⟨i, hi, he⟩ := Option.map_eq_some_iff.1 h
  simp only [Prod.mk.injEq] at he
  exact ⟨i, .slice none 0 0, hi, he.1, he.2.1, he.2.2, rfl, rfl⟩
theorem sh_Poss : shapeIs Try.prog 74 false 1 := shape_one Try.underlying74 trivial sz_Poss
theorem sz_Map : (Try.prog.info? 76).map (·.size) = some 1 := by kernel_rfl
theorem ii_Map : ∃ i, Try.prog.info? 76 = some i ∧ i.size = 1 := Option.map_eq_some_iff.1 sz_Map
theorem el_Map : ElemOk Try.prog 76 1 24 [.v (.slice none 0 0)] := by
  refine ⟨?_, by decide, by decide⟩
  have h : (Try.prog.info? 76).map (fun i => (i.size, i.bytes, i.zero)) = some (1, 24, some (.agg #[.slice none 0 0])) := by kernel_rfl
  obtain ⟨i, hi, he⟩ := Option.map_eq_some_iff.1 h
  simp only [Prod.mk.injEq] at he
  exact ⟨i, .agg #[.slice none 0 0], hi, he.1, he.2.1, he.2.2, rfl, rfl⟩
theorem sh_Map : shapeIs Try.prog 76 true 1 := ⟨ii_Map, fun w => by simp [isAgg, run_underlying Try.underlying76], fun h => by cases h⟩
theorem fld_Map_0 : fieldIs Try.prog 76 0 0 := by
  have h : (Try.prog.info? 74).map (·.size) = some 1 := by kernel_rfl
  obtain ⟨i, hi, hk⟩ := Option.map_eq_some_iff.1 h
  exact ⟨_, _, i, Try.underlying76, rfl, rfl, hi, by rw [hk]; decide⟩
theorem st_Map : structIs Try.prog 76 [(0, 1)] := ⟨_, Try.underlying76, by kernel_rfl, by kernel_rfl⟩
theorem sz_Int : (Try.prog.info? 3).map (·.size) = some 1 := by kernel_rfl
theorem ii_Int : ∃ i, Try.prog.info? 3 = some i ∧ i.size = 1 := Option.map_eq_some_iff.1 sz_Int
theorem el_Int : ElemOk Try.prog 3 1 8 [.v (.int .i64 0)] := by
  refine ⟨?_, by decide, by decide⟩
  have h : (Try.prog.info? 3).map (fun i => (i.size, i.bytes, i.zero)) = some (1, 8, some (.int .i64 0)) := by kernel_rfl
  obtain ⟨i, hi, he⟩ := Option.map_eq_some_iff.1 h
  simp only [Prod.mk.injEq] at he
  exact ⟨i, .int .i64 0, hi, he.1, he.2.1, he.2.2, rfl, rfl⟩
theorem sh_Int : shapeIs Try.prog 3 false 1 := shape_one Try.underlying3 trivial sz_Int
theorem sz_U64 : (Try.prog.info? 28).map (·.size) = some 1 := by kernel_rfl
theorem ii_U64 : ∃ i, Try.prog.info? 28 = some i ∧ i.size = 1 := Option.map_eq_some_iff.1 sz_U64
theorem el_U64 : ElemOk Try.prog 28 1 8 [.v (.int .u64 0)] := by
  refine ⟨?_, by decide, by decide⟩
  have h : (Try.prog.info? 28).map (fun i => (i.size, i.bytes, i.zero)) = some (1, 8, some (.int .u64 0)) := by kernel_rfl
  obtain ⟨i, hi, he⟩ := Option.map_eq_some_iff.1 h
  simp only [Prod.mk.injEq] at he
  exact ⟨i, .int .u64 0, hi, he.1, he.2.1, he.2.2, rfl, rfl⟩
theorem sh_U64 : shapeIs Try.prog 28 false 1 := shape_one Try.underlying28 trivial sz_U64
theorem sz_Row : (Try.prog.info? 22).map (·.size) = some 1 := by kernel_rfl
theorem ii_Row : ∃ i, Try.prog.info? 22 = some i ∧ i.size = 1 := Option.map_eq_some_iff.1 sz_Row
theorem el_Row : ElemOk Try.prog 22 1 24 [.v (.slice none 0 0)] := by
  refine ⟨?_, by decide, by decide⟩
  have h : (Try.prog.info? 22).map (fun i => (i.size, i.bytes, i.zero)) = some (1, 24, some (.slice none 0 0)) := by kernel_rfl
  obtain ⟨i, hi, he⟩ := Option.map_eq_some_iff.1 h
  simp only [Prod.mk.injEq] at he
  exact ⟨i, .slice none 0 0, hi, he.1, he.2.1, he.2.2, rfl, rfl⟩
theorem sh_Row : shapeIs Try.prog 22 false 1 := shape_one Try.underlying22 trivial sz_Row
theorem sz_Bool : (Try.prog.info? 4).map (·.size) = some 1 := by kernel_rfl
theorem ii_Bool : ∃ i, Try.prog.info? 4 = some i ∧ i.size = 1 := Option.map_eq_some_iff.1 sz_Bool
theorem el_Bool : ElemOk Try.prog 4 1 1 [.v (.bool false)] := by
  refine ⟨?_, by decide, by decide⟩
  have h : (Try.prog.info? 4).map (fun i => (i.size, i.bytes, i.zero)) = some (1, 1, some (.bool false)) := by kernel_rfl
  obtain ⟨i, hi, he⟩ := Option.map_eq_some_iff.1 h
  simp only [Prod.mk.injEq] at he
  exact ⟨i, .bool false, hi, he.1, he.2.1, he.2.2, rfl, rfl⟩
theorem sh_Bool : shapeIs Try.prog 4 false 1 := shape_one Try.underlying4 trivial sz_Bool
end Go.Proofs.ZtLe
