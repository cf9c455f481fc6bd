/- A part of the proof of InneChunks: walks of the functions that it reaches. No condition. -/
import Derived.Test.YtjkocjjcdjjdiaaProg
import Derived.Test.YtjkocjjcdjjdiaaZmP2
import Derived.KernelRfl
import Derived.Test.YtjkocjjcdjjdiaaZmAuto
namespace Go.Proofs.ZtLe
open Go.RowKit Go.Proofs Go.Proofs.Zm
set_option linter.unusedVariables false
set_option maxHeartbeats 20000000
set_option maxRecDepth 100000
attribute [local irreducible] ZWp ZOps ZPure ZPure0 ZVal ZOp SoundF
set_option maxRecDepth 100000
noncomputable def infL : List (Nat × Nat × Nat × Option Value) := [(1, 1, 8, some (.nilFunc)), (2, 1, 8, some (.int .i64 0)), (3, 1, 8, some (.int .i64 0)), (4, 1, 1, some (.bool false)), (5, 1, 1, some (.int .u8 0)), (6, 1, 1, some (.int .u8 0)), (7, 4, 24, some (.agg #[.int .i64 0, .int .i64 0, .bool false, .int .u8 0])), (8, 4, 24, some (.agg #[.int .i64 0, .int .i64 0, .bool false, .int .u8 0])), (9, 1, 16, some (.string ⟨#[]⟩)), (10, 1, 16, some (.string ⟨#[]⟩)), (11, 1, 16, some (.string ⟨#[]⟩)), (12, 1, 8, some (.int .u64 0)), (13, 2, 24, some (.agg #[.string ⟨#[]⟩, .int .u64 0])), (14, 2, 24, some (.agg #[.string ⟨#[]⟩, .int .u64 0])), (15, 1, 8, some (.pointer none)), (16, 1, 8, some (.pointer none)), (17, 1, 8, some (.pointer none)), (18, 1, 8, some (.agg #[.pointer none])), (19, 1, 8, some (.agg #[.pointer none])), (20, 1, 16, some (.nilIface)), (21, 1, 4, some (.int .i32 0)), (22, 1, 8, some (.float .f64 0)), (23, 10, 80, some (.agg #[.int .i64 0, .int .i64 0, .int .i64 0, .int .i64 0, .int .i64 0, .int .i64 0, .int .i64 0, .int .i64 0, .int .i64 0, .float .f64 0])), (24, 10, 80, some (.agg #[.int .i64 0, .int .i64 0, .int .i64 0, .int .i64 0, .int .i64 0, .int .i64 0, .int .i64 0, .int .i64 0, .int .i64 0, .float .f64 0])), (25, 1, 24, some (.slice none 0 0)), (26, 1, 24, some (.slice none 0 0)), (27, 1, 8, some (.nilFunc)), (28, 1, 24, some (.slice none 0 0)), (29, 1, 24, some (.slice none 0 0)), (30, 5, 104, some (.agg #[.bool false, .slice none 0 0, .slice none 0 0, .slice none 0 0, .slice none 0 0])), (31, 5, 104, some (.agg #[.bool false, .slice none 0 0, .slice none 0 0, .slice none 0 0, .slice none 0 0])), (32, 1, 8, some (.nilFunc)), (33, 1, 8, some (.nilFunc)), (35, 1, 8, some (.nilFunc)), (36, 1, 8, some (.nilFunc)), (37, 1, 8, some (.nilFunc)), (38, 1, 8, some (.nilFunc)), (39, 1, 8, some (.nilFunc)), (40, 1, 8, some (.nilFunc)), (41, 1, 8, some (.nilFunc)), (42, 1, 8, some (.nilFunc)), (43, 1, 24, some (.slice none 0 0)), (44, 1, 8, some (.nilFunc)), (46, 1, 8, some (.nilFunc)), (48, 1, 8, some (.nilFunc)), (49, 1, 8, some (.nilFunc)), (51, 1, 8, some (.nilFunc)), (52, 1, 8, some (.nilFunc)), (53, 3, 56, some (.agg #[.int .i64 0, .slice none 0 0, .slice none 0 0])), (54, 3, 56, some (.agg #[.int .i64 0, .slice none 0 0, .slice none 0 0])), (55, 1, 8, some (.nilFunc)), (56, 1, 8, some (.int .u64 0)), (57, 1, 24, some (.slice none 0 0)), (58, 1, 8, some (.nilFunc)), (59, 1, 8, some (.nilFunc)), (60, 1, 8, some (.nilFunc)), (61, 1, 24, some (.slice none 0 0)), (62, 1, 8, some (.nilFunc)), (64, 1, 8, some (.nilFunc)), (65, 1, 8, some (.nilFunc)), (66, 1, 8, some (.nilFunc)), (67, 1, 8, some (.nilFunc)), (68, 1, 8, some (.nilFunc)), (69, 1, 8, some (.nilFunc)), (70, 1, 8, some (.nilFunc)), (71, 1, 8, some (.nilFunc)), (72, 1, 8, some (.nilFunc)), (73, 1, 8, some (.nilFunc)), (74, 1, 8, some (.nilFunc)), (75, 1, 8, some (.nilFunc)), (76, 1, 8, some (.nilFunc)), (77, 1, 8, some (.nilFunc)), (78, 1, 8, some (.nilFunc)), (79, 1, 24, some (.slice none 0 0)), (80, 1, 8, some (.nilFunc)), (81, 1, 8, some (.nilFunc)), (82, 1, 8, some (.int .u64 0)), (83, 1, 8, some (.nilFunc)), (84, 1, 8, some (.nilFunc)), (85, 1, 8, some (.nilFunc)), (86, 1, 8, some (.nilFunc)), (87, 1, 8, some (.nilFunc)), (88, 1, 8, some (.nilFunc)), (89, 4, 40, some (.agg #[.pointer none, .pointer none, .pointer none, .string ⟨#[]⟩])), (90, 4, 40, some (.agg #[.pointer none, .pointer none, .pointer none, .string ⟨#[]⟩])), (94, 1, 8, some (.nilFunc)), (95, 1, 4, some (.int .u32 0)), (96, 1, 1, some (.int .u8 0)), (97, 1, 1, some (.int .u8 0)), (98, 1, 8, some (.nilFunc)), (99, 1, 8, some (.pointer none)), (100, 1, 4, some (.int .i32 0)), (101, 1, 4, some (.int .i32 0)), (102, 11, 48, some (.agg #[.int .u64 0, .int .u64 0, .int .u32 0, .int .u8 0, .int .u8 0, .int .u8 0, .int .u8 0, .nilFunc, .pointer none, .int .i32 0, .int .i32 0])), (103, 11, 48, some (.agg #[.int .u64 0, .int .u64 0, .int .u32 0, .int .u8 0, .int .u8 0, .int .u8 0, .int .u8 0, .nilFunc, .pointer none, .int .i32 0, .int .i32 0]))]
theorem infL_ok : infL.map (fun r => inf3 Try.prog r.1) = infL.map (fun r => some r.2) := by kernel_rfl
theorem inf_of {t : Nat} {r : Nat × Nat × Option Value} (h : lkT infL t = some r) : inf3 Try.prog t = some r := (allT_inf infL_ok).get h
theorem sz_of {t k b : Nat} {z : Option Value} (h : lkT infL t = some (k, b, z)) : (Try.prog.info? t).map (·.size) = some k := sz_mk (inf_of h)
theorem ii_of {t k b : Nat} {z : Option Value} (h : lkT infL t = some (k, b, z)) : ∃ i, Try.prog.info? t = some i ∧ i.size = k := ii_mk (inf_of h)
noncomputable def elL : List (Nat × (Nat × Nat × List D)) := [(1, (1, 8, [.v (.nilFunc)])), (2, (1, 8, [.v (.int .i64 0)])), (3, (1, 8, [.v (.int .i64 0)])), (4, (1, 1, [.v (.bool false)])), (5, (1, 1, [.v (.int .u8 0)])), (6, (1, 1, [.v (.int .u8 0)])), (7, (4, 24, [.v (.int .i64 0), .v (.int .i64 0), .v (.bool false), .v (.int .u8 0)])), (8, (4, 24, [.v (.int .i64 0), .v (.int .i64 0), .v (.bool false), .v (.int .u8 0)])), (9, (1, 16, [.v (.string ⟨#[]⟩)])), (10, (1, 16, [.v (.string ⟨#[]⟩)])), (11, (1, 16, [.v (.string ⟨#[]⟩)])), (12, (1, 8, [.v (.int .u64 0)])), (13, (2, 24, [.v (.string ⟨#[]⟩), .v (.int .u64 0)])), (14, (2, 24, [.v (.string ⟨#[]⟩), .v (.int .u64 0)])), (15, (1, 8, [.v (.pointer none)])), (16, (1, 8, [.v (.pointer none)])), (17, (1, 8, [.v (.pointer none)])), (18, (1, 8, [.v (.pointer none)])), (19, (1, 8, [.v (.pointer none)])), (20, (1, 16, [.v (.nilIface)])), (21, (1, 4, [.v (.int .i32 0)])), (22, (1, 8, [.v (.float .f64 0)])), (23, (10, 80, [.v (.int .i64 0), .v (.int .i64 0), .v (.int .i64 0), .v (.int .i64 0), .v (.int .i64 0), .v (.int .i64 0), .v (.int .i64 0), .v (.int .i64 0), .v (.int .i64 0), .v (.float .f64 0)])), (24, (10, 80, [.v (.int .i64 0), .v (.int .i64 0), .v (.int .i64 0), .v (.int .i64 0), .v (.int .i64 0), .v (.int .i64 0), .v (.int .i64 0), .v (.int .i64 0), .v (.int .i64 0), .v (.float .f64 0)])), (25, (1, 24, [.v (.slice none 0 0)])), (26, (1, 24, [.v (.slice none 0 0)])), (27, (1, 8, [.v (.nilFunc)])), (28, (1, 24, [.v (.slice none 0 0)])), (29, (1, 24, [.v (.slice none 0 0)])), (30, (5, 104, [.v (.bool false), .v (.slice none 0 0), .v (.slice none 0 0), .v (.slice none 0 0), .v (.slice none 0 0)])), (31, (5, 104, [.v (.bool false), .v (.slice none 0 0), .v (.slice none 0 0), .v (.slice none 0 0), .v (.slice none 0 0)])), (32, (1, 8, [.v (.nilFunc)])), (33, (1, 8, [.v (.nilFunc)])), (35, (1, 8, [.v (.nilFunc)])), (36, (1, 8, [.v (.nilFunc)])), (37, (1, 8, [.v (.nilFunc)])), (38, (1, 8, [.v (.nilFunc)])), (39, (1, 8, [.v (.nilFunc)])), (40, (1, 8, [.v (.nilFunc)])), (41, (1, 8, [.v (.nilFunc)])), (42, (1, 8, [.v (.nilFunc)])), (43, (1, 24, [.v (.slice none 0 0)])), (44, (1, 8, [.v (.nilFunc)])), (46, (1, 8, [.v (.nilFunc)])), (48, (1, 8, [.v (.nilFunc)])), (49, (1, 8, [.v (.nilFunc)])), (51, (1, 8, [.v (.nilFunc)])), (52, (1, 8, [.v (.nilFunc)])), (53, (3, 56, [.v (.int .i64 0), .v (.slice none 0 0), .v (.slice none 0 0)])), (54, (3, 56, [.v (.int .i64 0), .v (.slice none 0 0), .v (.slice none 0 0)])), (55, (1, 8, [.v (.nilFunc)])), (56, (1, 8, [.v (.int .u64 0)])), (57, (1, 24, [.v (.slice none 0 0)])), (58, (1, 8, [.v (.nilFunc)])), (59, (1, 8, [.v (.nilFunc)])), (60, (1, 8, [.v (.nilFunc)])), (61, (1, 24, [.v (.slice none 0 0)])), (62, (1, 8, [.v (.nilFunc)])), (64, (1, 8, [.v (.nilFunc)])), (65, (1, 8, [.v (.nilFunc)])), (66, (1, 8, [.v (.nilFunc)])), (67, (1, 8, [.v (.nilFunc)])), (68, (1, 8, [.v (.nilFunc)])), (69, (1, 8, [.v (.nilFunc)])), (70, (1, 8, [.v (.nilFunc)])), (71, (1, 8, [.v (.nilFunc)])), (72, (1, 8, [.v (.nilFunc)])), (73, (1, 8, [.v (.nilFunc)])), (74, (1, 8, [.v (.nilFunc)])), (75, (1, 8, [.v (.nilFunc)])), (76, (1, 8, [.v (.nilFunc)])), (77, (1, 8, [.v (.nilFunc)])), (78, (1, 8, [.v (.nilFunc)])), (79, (1, 24, [.v (.slice none 0 0)])), (80, (1, 8, [.v (.nilFunc)])), (81, (1, 8, [.v (.nilFunc)])), (82, (1, 8, [.v (.int .u64 0)])), (83, (1, 8, [.v (.nilFunc)])), (84, (1, 8, [.v (.nilFunc)])), (85, (1, 8, [.v (.nilFunc)])), (86, (1, 8, [.v (.nilFunc)])), (87, (1, 8, [.v (.nilFunc)])), (88, (1, 8, [.v (.nilFunc)])), (89, (4, 40, [.v (.pointer none), .v (.pointer none), .v (.pointer none), .v (.string ⟨#[]⟩)])), (90, (4, 40, [.v (.pointer none), .v (.pointer none), .v (.pointer none), .v (.string ⟨#[]⟩)])), (94, (1, 8, [.v (.nilFunc)])), (95, (1, 4, [.v (.int .u32 0)])), (96, (1, 1, [.v (.int .u8 0)])), (97, (1, 1, [.v (.int .u8 0)])), (98, (1, 8, [.v (.nilFunc)])), (99, (1, 8, [.v (.pointer none)])), (100, (1, 4, [.v (.int .i32 0)])), (101, (1, 4, [.v (.int .i32 0)])), (102, (11, 48, [.v (.int .u64 0), .v (.int .u64 0), .v (.int .u32 0), .v (.int .u8 0), .v (.int .u8 0), .v (.int .u8 0), .v (.int .u8 0), .v (.nilFunc), .v (.pointer none), .v (.int .i32 0), .v (.int .i32 0)])), (103, (11, 48, [.v (.int .u64 0), .v (.int .u64 0), .v (.int .u32 0), .v (.int .u8 0), .v (.int .u8 0), .v (.int .u8 0), .v (.int .u8 0), .v (.nilFunc), .v (.pointer none), .v (.int .i32 0), .v (.int .i32 0)]))]
theorem elL_ok : AllT (fun t r => ElemOk Try.prog t r.1 r.2.1 r.2.2) elL := by
  refine And.intro (el_mk (inf_of rfl) rfl rfl (by decide) (by decide)) ?_
  refine And.intro (el_mk (inf_of rfl) rfl rfl (by decide) (by decide)) ?_
  refine And.intro (el_mk (inf_of rfl) rfl rfl (by decide) (by decide)) ?_
  refine And.intro (el_mk (inf_of rfl) rfl rfl (by decide) (by decide)) ?_
  refine And.intro (el_mk (inf_of rfl) rfl rfl (by decide) (by decide)) ?_
  refine And.intro (el_mk (inf_of rfl) rfl rfl (by decide) (by decide)) ?_
  refine And.intro (el_mk (inf_of rfl) rfl rfl (by decide) (by decide)) ?_
  refine And.intro (el_mk (inf_of rfl) rfl rfl (by decide) (by decide)) ?_
  refine And.intro (el_mk (inf_of rfl) rfl rfl (by decide) (by decide)) ?_
  refine And.intro (el_mk (inf_of rfl) rfl rfl (by decide) (by decide)) ?_
  refine And.intro (el_mk (inf_of rfl) rfl rfl (by decide) (by decide)) ?_
  refine And.intro (el_mk (inf_of rfl) rfl rfl (by decide) (by decide)) ?_
  refine And.intro (el_mk (inf_of rfl) rfl rfl (by decide) (by decide)) ?_
  refine And.intro (el_mk (inf_of rfl) rfl rfl (by decide) (by decide)) ?_
  refine And.intro (el_mk (inf_of rfl) rfl rfl (by decide) (by decide)) ?_
  refine And.intro (el_mk (inf_of rfl) rfl rfl (by decide) (by decide)) ?_
  refine And.intro (el_mk (inf_of rfl) rfl rfl (by decide) (by decide)) ?_
  refine And.intro (el_mk (inf_of rfl) rfl rfl (by decide) (by decide)) ?_
  refine And.intro (el_mk (inf_of rfl) rfl rfl (by decide) (by decide)) ?_
  refine And.intro (el_mk (inf_of rfl) rfl rfl (by decide) (by decide)) ?_
  refine And.intro (el_mk (inf_of rfl) rfl rfl (by decide) (by decide)) ?_
  refine And.intro (el_mk (inf_of rfl) rfl rfl (by decide) (by decide)) ?_
  refine And.intro (el_mk (inf_of rfl) rfl rfl (by decide) (by decide)) ?_
  refine And.intro (el_mk (inf_of rfl) rfl rfl (by decide) (by decide)) ?_
  refine And.intro (el_mk (inf_of rfl) rfl rfl (by decide) (by decide)) ?_
  refine And.intro (el_mk (inf_of rfl) rfl rfl (by decide) (by decide)) ?_
  refine And.intro (el_mk (inf_of rfl) rfl rfl (by decide) (by decide)) ?_
  refine And.intro (el_mk (inf_of rfl) rfl rfl (by decide) (by decide)) ?_
  refine And.intro (el_mk (inf_of rfl) rfl rfl (by decide) (by decide)) ?_
  refine And.intro (el_mk (inf_of rfl) rfl rfl (by decide) (by decide)) ?_
  refine And.intro (el_mk (inf_of rfl) rfl rfl (by decide) (by decide)) ?_
  refine And.intro (el_mk (inf_of rfl) rfl rfl (by decide) (by decide)) ?_
  refine And.intro (el_mk (inf_of rfl) rfl rfl (by decide) (by decide)) ?_
  refine And.intro (el_mk (inf_of rfl) rfl rfl (by decide) (by decide)) ?_
  refine And.intro (el_mk (inf_of rfl) rfl rfl (by decide) (by decide)) ?_
  refine And.intro (el_mk (inf_of rfl) rfl rfl (by decide) (by decide)) ?_
  refine And.intro (el_mk (inf_of rfl) rfl rfl (by decide) (by decide)) ?_
  refine And.intro (el_mk (inf_of rfl) rfl rfl (by decide) (by decide)) ?_
  refine And.intro (el_mk (inf_of rfl) rfl rfl (by decide) (by decide)) ?_
  refine And.intro (el_mk (inf_of rfl) rfl rfl (by decide) (by decide)) ?_
  refine And.intro (el_mk (inf_of rfl) rfl rfl (by decide) (by decide)) ?_
  refine And.intro (el_mk (inf_of rfl) rfl rfl (by decide) (by decide)) ?_
  refine And.intro (el_mk (inf_of rfl) rfl rfl (by decide) (by decide)) ?_
  refine And.intro (el_mk (inf_of rfl) rfl rfl (by decide) (by decide)) ?_
  refine And.intro (el_mk (inf_of rfl) rfl rfl (by decide) (by decide)) ?_
  refine And.intro (el_mk (inf_of rfl) rfl rfl (by decide) (by decide)) ?_
  refine And.intro (el_mk (inf_of rfl) rfl rfl (by decide) (by decide)) ?_
  refine And.intro (el_mk (inf_of rfl) rfl rfl (by decide) (by decide)) ?_
  refine And.intro (el_mk (inf_of rfl) rfl rfl (by decide) (by decide)) ?_
  refine And.intro (el_mk (inf_of rfl) rfl rfl (by decide) (by decide)) ?_
  refine And.intro (el_mk (inf_of rfl) rfl rfl (by decide) (by decide)) ?_
  refine And.intro (el_mk (inf_of rfl) rfl rfl (by decide) (by decide)) ?_
  refine And.intro (el_mk (inf_of rfl) rfl rfl (by decide) (by decide)) ?_
  refine And.intro (el_mk (inf_of rfl) rfl rfl (by decide) (by decide)) ?_
  refine And.intro (el_mk (inf_of rfl) rfl rfl (by decide) (by decide)) ?_
  refine And.intro (el_mk (inf_of rfl) rfl rfl (by decide) (by decide)) ?_
  refine And.intro (el_mk (inf_of rfl) rfl rfl (by decide) (by decide)) ?_
  refine And.intro (el_mk (inf_of rfl) rfl rfl (by decide) (by decide)) ?_
  refine And.intro (el_mk (inf_of rfl) rfl rfl (by decide) (by decide)) ?_
  refine And.intro (el_mk (inf_of rfl) rfl rfl (by decide) (by decide)) ?_
  refine And.intro (el_mk (inf_of rfl) rfl rfl (by decide) (by decide)) ?_
  refine And.intro (el_mk (inf_of rfl) rfl rfl (by decide) (by decide)) ?_
  refine And.intro (el_mk (inf_of rfl) rfl rfl (by decide) (by decide)) ?_
  refine And.intro (el_mk (inf_of rfl) rfl rfl (by decide) (by decide)) ?_
  refine And.intro (el_mk (inf_of rfl) rfl rfl (by decide) (by decide)) ?_
  refine And.intro (el_mk (inf_of rfl) rfl rfl (by decide) (by decide)) ?_
  refine And.intro (el_mk (inf_of rfl) rfl rfl (by decide) (by decide)) ?_
  refine And.intro (el_mk (inf_of rfl) rfl rfl (by decide) (by decide)) ?_
  refine And.intro (el_mk (inf_of rfl) rfl rfl (by decide) (by decide)) ?_
  refine And.intro (el_mk (inf_of rfl) rfl rfl (by decide) (by decide)) ?_
  refine And.intro (el_mk (inf_of rfl) rfl rfl (by decide) (by decide)) ?_
  refine And.intro (el_mk (inf_of rfl) rfl rfl (by decide) (by decide)) ?_
  refine And.intro (el_mk (inf_of rfl) rfl rfl (by decide) (by decide)) ?_
  refine And.intro (el_mk (inf_of rfl) rfl rfl (by decide) (by decide)) ?_
  refine And.intro (el_mk (inf_of rfl) rfl rfl (by decide) (by decide)) ?_
  refine And.intro (el_mk (inf_of rfl) rfl rfl (by decide) (by decide)) ?_
  refine And.intro (el_mk (inf_of rfl) rfl rfl (by decide) (by decide)) ?_
  refine And.intro (el_mk (inf_of rfl) rfl rfl (by decide) (by decide)) ?_
  refine And.intro (el_mk (inf_of rfl) rfl rfl (by decide) (by decide)) ?_
  refine And.intro (el_mk (inf_of rfl) rfl rfl (by decide) (by decide)) ?_
  refine And.intro (el_mk (inf_of rfl) rfl rfl (by decide) (by decide)) ?_
  refine And.intro (el_mk (inf_of rfl) rfl rfl (by decide) (by decide)) ?_
  refine And.intro (el_mk (inf_of rfl) rfl rfl (by decide) (by decide)) ?_
  refine And.intro (el_mk (inf_of rfl) rfl rfl (by decide) (by decide)) ?_
  refine And.intro (el_mk (inf_of rfl) rfl rfl (by decide) (by decide)) ?_
  refine And.intro (el_mk (inf_of rfl) rfl rfl (by decide) (by decide)) ?_
  refine And.intro (el_mk (inf_of rfl) rfl rfl (by decide) (by decide)) ?_
  refine And.intro (el_mk (inf_of rfl) rfl rfl (by decide) (by decide)) ?_
  refine And.intro (el_mk (inf_of rfl) rfl rfl (by decide) (by decide)) ?_
  refine And.intro (el_mk (inf_of rfl) rfl rfl (by decide) (by decide)) ?_
  refine And.intro (el_mk (inf_of rfl) rfl rfl (by decide) (by decide)) ?_
  refine And.intro (el_mk (inf_of rfl) rfl rfl (by decide) (by decide)) ?_
  refine And.intro (el_mk (inf_of rfl) rfl rfl (by decide) (by decide)) ?_
  refine And.intro (el_mk (inf_of rfl) rfl rfl (by decide) (by decide)) ?_
  refine And.intro (el_mk (inf_of rfl) rfl rfl (by decide) (by decide)) ?_
  exact trivial
theorem el_of {t k b : Nat} {z : List D} (h : lkT elL t = some (k, b, z)) : ElemOk Try.prog t k b z := elL_ok.get h
noncomputable def slL : List (Nat × Nat) := [(25, 3), (26, 5), (28, 26), (29, 54), (43, 29), (57, 31), (61, 22), (79, 9)]
theorem slL_ok : AllT (fun t r => Try.prog.underlying t = some (.slice r)) slL := by
  refine And.intro (Try.underlying25) ?_
  refine And.intro (Try.underlying26) ?_
  refine And.intro (Try.underlying28) ?_
  refine And.intro (Try.underlying29) ?_
  refine And.intro (Try.underlying43) ?_
  refine And.intro (Try.underlying57) ?_
  refine And.intro (Try.underlying61) ?_
  refine And.intro (Try.underlying79) ?_
  exact trivial
theorem un_sl {t e : Nat} (h : lkT slL t = some e) : Try.prog.underlying t = some (.slice e) := slL_ok.get h
noncomputable def inL : List (Nat × IntKind) := [(2, .i64), (3, .i64), (5, .u8), (6, .u8), (12, .u64), (21, .i32), (56, .u64), (82, .u64), (95, .u32), (96, .u8), (97, .u8), (100, .i32), (101, .i32)]
theorem inL_ok : AllT (fun t r => Try.prog.underlying t = some (.int r)) inL := by
  refine And.intro (Try.underlying2) ?_
  refine And.intro (Try.underlying3) ?_
  refine And.intro (Try.underlying5) ?_
  refine And.intro (Try.underlying6) ?_
  refine And.intro (Try.underlying12) ?_
  refine And.intro (Try.underlying21) ?_
  refine And.intro (Try.underlying56) ?_
  refine And.intro (Try.underlying82) ?_
  refine And.intro (Try.underlying95) ?_
  refine And.intro (Try.underlying96) ?_
  refine And.intro (Try.underlying97) ?_
  refine And.intro (Try.underlying100) ?_
  refine And.intro (Try.underlying101) ?_
  exact trivial
theorem un_int {t : Nat} {e : IntKind} (h : lkT inL t = some e) : Try.prog.underlying t = some (.int e) := inL_ok.get h
noncomputable def shL : List (Nat × (Bool × Nat)) := [(1, (false, 1)), (2, (false, 1)), (3, (false, 1)), (4, (false, 1)), (5, (false, 1)), (6, (false, 1)), (7, (true, 4)), (8, (true, 4)), (9, (false, 1)), (10, (false, 1)), (11, (false, 1)), (12, (false, 1)), (13, (true, 2)), (14, (true, 2)), (15, (false, 1)), (16, (false, 1)), (17, (false, 1)), (18, (true, 1)), (19, (true, 1)), (20, (false, 1)), (21, (false, 1)), (22, (false, 1)), (23, (true, 10)), (24, (true, 10)), (25, (false, 1)), (26, (false, 1)), (27, (false, 1)), (28, (false, 1)), (29, (false, 1)), (30, (true, 5)), (31, (true, 5)), (32, (false, 1)), (33, (false, 1)), (35, (false, 1)), (36, (false, 1)), (37, (false, 1)), (38, (false, 1)), (39, (false, 1)), (40, (false, 1)), (41, (false, 1)), (42, (false, 1)), (43, (false, 1)), (44, (false, 1)), (46, (false, 1)), (48, (false, 1)), (49, (false, 1)), (51, (false, 1)), (52, (false, 1)), (53, (true, 3)), (54, (true, 3)), (55, (false, 1)), (56, (false, 1)), (57, (false, 1)), (58, (false, 1)), (59, (false, 1)), (60, (false, 1)), (61, (false, 1)), (62, (false, 1)), (64, (false, 1)), (65, (false, 1)), (66, (false, 1)), (67, (false, 1)), (68, (false, 1)), (69, (false, 1)), (70, (false, 1)), (71, (false, 1)), (72, (false, 1)), (73, (false, 1)), (74, (false, 1)), (75, (false, 1)), (76, (false, 1)), (77, (false, 1)), (78, (false, 1)), (79, (false, 1)), (80, (false, 1)), (81, (false, 1)), (82, (false, 1)), (83, (false, 1)), (84, (false, 1)), (85, (false, 1)), (86, (false, 1)), (87, (false, 1)), (88, (false, 1)), (89, (true, 4)), (90, (true, 4)), (94, (false, 1)), (95, (false, 1)), (96, (false, 1)), (97, (false, 1)), (98, (false, 1)), (99, (false, 1)), (100, (false, 1)), (101, (false, 1)), (102, (true, 11)), (103, (true, 11))]
theorem shL_ok : AllT (fun t r => shapeIs Try.prog t r.1 r.2) shL := by
  refine And.intro (shape_one Try.underlying1 trivial (sz_of rfl)) ?_
  refine And.intro (shape_one Try.underlying2 trivial (sz_of rfl)) ?_
  refine And.intro (shape_one Try.underlying3 trivial (sz_of rfl)) ?_
  refine And.intro (shape_one Try.underlying4 trivial (sz_of rfl)) ?_
  refine And.intro (shape_one Try.underlying5 trivial (sz_of rfl)) ?_
  refine And.intro (shape_one Try.underlying6 trivial (sz_of rfl)) ?_
  refine And.intro (⟨ii_of (t := 7) rfl, fun w => by simp [isAgg, run_underlying Try.underlying7], fun h => by cases h⟩) ?_
  refine And.intro (⟨ii_of (t := 8) rfl, fun w => by simp [isAgg, run_underlying Try.underlying8], fun h => by cases h⟩) ?_
  refine And.intro (shape_one Try.underlying9 trivial (sz_of rfl)) ?_
  refine And.intro (shape_one Try.underlying10 trivial (sz_of rfl)) ?_
  refine And.intro (shape_one Try.underlying11 trivial (sz_of rfl)) ?_
  refine And.intro (shape_one Try.underlying12 trivial (sz_of rfl)) ?_
  refine And.intro (⟨ii_of (t := 13) rfl, fun w => by simp [isAgg, run_underlying Try.underlying13], fun h => by cases h⟩) ?_
  refine And.intro (⟨ii_of (t := 14) rfl, fun w => by simp [isAgg, run_underlying Try.underlying14], fun h => by cases h⟩) ?_
  refine And.intro (shape_one Try.underlying15 trivial (sz_of rfl)) ?_
  refine And.intro (shape_one Try.underlying16 trivial (sz_of rfl)) ?_
  refine And.intro (shape_one Try.underlying17 trivial (sz_of rfl)) ?_
  refine And.intro (⟨ii_of (t := 18) rfl, fun w => by simp [isAgg, run_underlying Try.underlying18], fun h => by cases h⟩) ?_
  refine And.intro (⟨ii_of (t := 19) rfl, fun w => by simp [isAgg, run_underlying Try.underlying19], fun h => by cases h⟩) ?_
  refine And.intro (shape_one Try.underlying20 trivial (sz_of rfl)) ?_
  refine And.intro (shape_one Try.underlying21 trivial (sz_of rfl)) ?_
  refine And.intro (shape_one Try.underlying22 trivial (sz_of rfl)) ?_
  refine And.intro (⟨ii_of (t := 23) rfl, fun w => by simp [isAgg, run_underlying Try.underlying23], fun h => by cases h⟩) ?_
  refine And.intro (⟨ii_of (t := 24) rfl, fun w => by simp [isAgg, run_underlying Try.underlying24], fun h => by cases h⟩) ?_
  refine And.intro (shape_one Try.underlying25 trivial (sz_of rfl)) ?_
  refine And.intro (shape_one Try.underlying26 trivial (sz_of rfl)) ?_
  refine And.intro (shape_one Try.underlying27 trivial (sz_of rfl)) ?_
  refine And.intro (shape_one Try.underlying28 trivial (sz_of rfl)) ?_
  refine And.intro (shape_one Try.underlying29 trivial (sz_of rfl)) ?_
  refine And.intro (⟨ii_of (t := 30) rfl, fun w => by simp [isAgg, run_underlying Try.underlying30], fun h => by cases h⟩) ?_
  refine And.intro (⟨ii_of (t := 31) rfl, fun w => by simp [isAgg, run_underlying Try.underlying31], fun h => by cases h⟩) ?_
  refine And.intro (shape_one Try.underlying32 trivial (sz_of rfl)) ?_
  refine And.intro (shape_one Try.underlying33 trivial (sz_of rfl)) ?_
  refine And.intro (shape_one Try.underlying35 trivial (sz_of rfl)) ?_
  refine And.intro (shape_one Try.underlying36 trivial (sz_of rfl)) ?_
  refine And.intro (shape_one Try.underlying37 trivial (sz_of rfl)) ?_
  refine And.intro (shape_one Try.underlying38 trivial (sz_of rfl)) ?_
  refine And.intro (shape_one Try.underlying39 trivial (sz_of rfl)) ?_
  refine And.intro (shape_one Try.underlying40 trivial (sz_of rfl)) ?_
  refine And.intro (shape_one Try.underlying41 trivial (sz_of rfl)) ?_
  refine And.intro (shape_one Try.underlying42 trivial (sz_of rfl)) ?_
  refine And.intro (shape_one Try.underlying43 trivial (sz_of rfl)) ?_
  refine And.intro (shape_one Try.underlying44 trivial (sz_of rfl)) ?_
  refine And.intro (shape_one Try.underlying46 trivial (sz_of rfl)) ?_
  refine And.intro (shape_one Try.underlying48 trivial (sz_of rfl)) ?_
  refine And.intro (shape_one Try.underlying49 trivial (sz_of rfl)) ?_
  refine And.intro (shape_one Try.underlying51 trivial (sz_of rfl)) ?_
  refine And.intro (shape_one Try.underlying52 trivial (sz_of rfl)) ?_
  refine And.intro (⟨ii_of (t := 53) rfl, fun w => by simp [isAgg, run_underlying Try.underlying53], fun h => by cases h⟩) ?_
  refine And.intro (⟨ii_of (t := 54) rfl, fun w => by simp [isAgg, run_underlying Try.underlying54], fun h => by cases h⟩) ?_
  refine And.intro (shape_one Try.underlying55 trivial (sz_of rfl)) ?_
  refine And.intro (shape_one Try.underlying56 trivial (sz_of rfl)) ?_
  refine And.intro (shape_one Try.underlying57 trivial (sz_of rfl)) ?_
  refine And.intro (shape_one Try.underlying58 trivial (sz_of rfl)) ?_
  refine And.intro (shape_one Try.underlying59 trivial (sz_of rfl)) ?_
  refine And.intro (shape_one Try.underlying60 trivial (sz_of rfl)) ?_
  refine And.intro (shape_one Try.underlying61 trivial (sz_of rfl)) ?_
  refine And.intro (shape_one Try.underlying62 trivial (sz_of rfl)) ?_
  refine And.intro (shape_one Try.underlying64 trivial (sz_of rfl)) ?_
  refine And.intro (shape_one Try.underlying65 trivial (sz_of rfl)) ?_
  refine And.intro (shape_one Try.underlying66 trivial (sz_of rfl)) ?_
  refine And.intro (shape_one Try.underlying67 trivial (sz_of rfl)) ?_
  refine And.intro (shape_one Try.underlying68 trivial (sz_of rfl)) ?_
  refine And.intro (shape_one Try.underlying69 trivial (sz_of rfl)) ?_
  refine And.intro (shape_one Try.underlying70 trivial (sz_of rfl)) ?_
  refine And.intro (shape_one Try.underlying71 trivial (sz_of rfl)) ?_
  refine And.intro (shape_one Try.underlying72 trivial (sz_of rfl)) ?_
  refine And.intro (shape_one Try.underlying73 trivial (sz_of rfl)) ?_
  refine And.intro (shape_one Try.underlying74 trivial (sz_of rfl)) ?_
  refine And.intro (shape_one Try.underlying75 trivial (sz_of rfl)) ?_
  refine And.intro (shape_one Try.underlying76 trivial (sz_of rfl)) ?_
  refine And.intro (shape_one Try.underlying77 trivial (sz_of rfl)) ?_
  refine And.intro (shape_one Try.underlying78 trivial (sz_of rfl)) ?_
  refine And.intro (shape_one Try.underlying79 trivial (sz_of rfl)) ?_
  refine And.intro (shape_one Try.underlying80 trivial (sz_of rfl)) ?_
  refine And.intro (shape_one Try.underlying81 trivial (sz_of rfl)) ?_
  refine And.intro (shape_one Try.underlying82 trivial (sz_of rfl)) ?_
  refine And.intro (shape_one Try.underlying83 trivial (sz_of rfl)) ?_
  refine And.intro (shape_one Try.underlying84 trivial (sz_of rfl)) ?_
  refine And.intro (shape_one Try.underlying85 trivial (sz_of rfl)) ?_
  refine And.intro (shape_one Try.underlying86 trivial (sz_of rfl)) ?_
  refine And.intro (shape_one Try.underlying87 trivial (sz_of rfl)) ?_
  refine And.intro (shape_one Try.underlying88 trivial (sz_of rfl)) ?_
  refine And.intro (⟨ii_of (t := 89) rfl, fun w => by simp [isAgg, run_underlying Try.underlying89], fun h => by cases h⟩) ?_
  refine And.intro (⟨ii_of (t := 90) rfl, fun w => by simp [isAgg, run_underlying Try.underlying90], fun h => by cases h⟩) ?_
  refine And.intro (shape_one Try.underlying94 trivial (sz_of rfl)) ?_
  refine And.intro (shape_one Try.underlying95 trivial (sz_of rfl)) ?_
  refine And.intro (shape_one Try.underlying96 trivial (sz_of rfl)) ?_
  refine And.intro (shape_one Try.underlying97 trivial (sz_of rfl)) ?_
  refine And.intro (shape_one Try.underlying98 trivial (sz_of rfl)) ?_
  refine And.intro (shape_one Try.underlying99 trivial (sz_of rfl)) ?_
  refine And.intro (shape_one Try.underlying100 trivial (sz_of rfl)) ?_
  refine And.intro (shape_one Try.underlying101 trivial (sz_of rfl)) ?_
  refine And.intro (⟨ii_of (t := 102) rfl, fun w => by simp [isAgg, run_underlying Try.underlying102], fun h => by cases h⟩) ?_
  refine And.intro (⟨ii_of (t := 103) rfl, fun w => by simp [isAgg, run_underlying Try.underlying103], fun h => by cases h⟩) ?_
  exact trivial
theorem sh_of {t k : Nat} {b : Bool} (h : lkT shL t = some (b, k)) : shapeIs Try.prog t b k := shL_ok.get h
noncomputable def stL : List (Nat × (List (Nat × Nat))) := [(7, [(0, 1), (1, 1), (2, 1), (3, 1)]), (8, [(0, 1), (1, 1), (2, 1), (3, 1)]), (13, [(0, 1), (1, 1)]), (14, [(0, 1), (1, 1)]), (18, [(0, 1)]), (19, [(0, 1)]), (23, [(0, 1), (1, 1), (2, 1), (3, 1), (4, 1), (5, 1), (6, 1), (7, 1), (8, 1), (9, 1)]), (24, [(0, 1), (1, 1), (2, 1), (3, 1), (4, 1), (5, 1), (6, 1), (7, 1), (8, 1), (9, 1)]), (30, [(0, 1), (1, 1), (2, 1), (3, 1), (4, 1)]), (31, [(0, 1), (1, 1), (2, 1), (3, 1), (4, 1)]), (53, [(0, 1), (1, 1), (2, 1)]), (54, [(0, 1), (1, 1), (2, 1)]), (89, [(0, 1), (1, 1), (2, 1), (3, 1)]), (90, [(0, 1), (1, 1), (2, 1), (3, 1)]), (102, [(0, 1), (1, 1), (2, 1), (3, 1), (4, 1), (5, 1), (6, 1), (7, 1), (8, 1), (9, 1), (10, 1)]), (103, [(0, 1), (1, 1), (2, 1), (3, 1), (4, 1), (5, 1), (6, 1), (7, 1), (8, 1), (9, 1), (10, 1)])]
theorem stL_ok : AllT (fun t r => structIs Try.prog t r) stL := by
  refine And.intro (⟨_, Try.underlying7, by kernel_rfl, by kernel_rfl⟩) ?_
  refine And.intro (⟨_, Try.underlying8, by kernel_rfl, by kernel_rfl⟩) ?_
  refine And.intro (⟨_, Try.underlying13, by kernel_rfl, by kernel_rfl⟩) ?_
  refine And.intro (⟨_, Try.underlying14, by kernel_rfl, by kernel_rfl⟩) ?_
  refine And.intro (⟨_, Try.underlying18, by kernel_rfl, by kernel_rfl⟩) ?_
  refine And.intro (⟨_, Try.underlying19, by kernel_rfl, by kernel_rfl⟩) ?_
  refine And.intro (⟨_, Try.underlying23, by kernel_rfl, by kernel_rfl⟩) ?_
  refine And.intro (⟨_, Try.underlying24, by kernel_rfl, by kernel_rfl⟩) ?_
  refine And.intro (⟨_, Try.underlying30, by kernel_rfl, by kernel_rfl⟩) ?_
  refine And.intro (⟨_, Try.underlying31, by kernel_rfl, by kernel_rfl⟩) ?_
  refine And.intro (⟨_, Try.underlying53, by kernel_rfl, by kernel_rfl⟩) ?_
  refine And.intro (⟨_, Try.underlying54, by kernel_rfl, by kernel_rfl⟩) ?_
  refine And.intro (⟨_, Try.underlying89, by kernel_rfl, by kernel_rfl⟩) ?_
  refine And.intro (⟨_, Try.underlying90, by kernel_rfl, by kernel_rfl⟩) ?_
  refine And.intro (⟨_, Try.underlying102, by kernel_rfl, by kernel_rfl⟩) ?_
  refine And.intro (⟨_, Try.underlying103, by kernel_rfl, by kernel_rfl⟩) ?_
  exact trivial
theorem st_of {t : Nat} {pl : List (Nat × Nat)} (h : lkT stL t = some pl) : structIs Try.prog t pl := stL_ok.get h
noncomputable def flL : List (Nat × Nat × Nat) := [(7, 0, 0), (7, 1, 1), (7, 2, 2), (7, 3, 3), (8, 0, 0), (8, 1, 1), (8, 2, 2), (8, 3, 3), (13, 0, 0), (13, 1, 1), (14, 0, 0), (14, 1, 1), (18, 0, 0), (19, 0, 0), (23, 0, 0), (23, 1, 1), (23, 2, 2), (23, 3, 3), (23, 4, 4), (23, 5, 5), (23, 6, 6), (23, 7, 7), (23, 8, 8), (23, 9, 9), (24, 0, 0), (24, 1, 1), (24, 2, 2), (24, 3, 3), (24, 4, 4), (24, 5, 5), (24, 6, 6), (24, 7, 7), (24, 8, 8), (24, 9, 9), (30, 0, 0), (30, 1, 1), (30, 2, 2), (30, 3, 3), (30, 4, 4), (31, 0, 0), (31, 1, 1), (31, 2, 2), (31, 3, 3), (31, 4, 4), (53, 0, 0), (53, 1, 1), (53, 2, 2), (54, 0, 0), (54, 1, 1), (54, 2, 2), (89, 0, 0), (89, 1, 1), (89, 2, 2), (89, 3, 3), (90, 0, 0), (90, 1, 1), (90, 2, 2), (90, 3, 3), (102, 0, 0), (102, 1, 1), (102, 2, 2), (102, 3, 3), (102, 4, 4), (102, 5, 5), (102, 6, 6), (102, 7, 7), (102, 8, 8), (102, 9, 9), (102, 10, 10), (103, 0, 0), (103, 1, 1), (103, 2, 2), (103, 3, 3), (103, 4, 4), (103, 5, 5), (103, 6, 6), (103, 7, 7), (103, 8, 8), (103, 9, 9), (103, 10, 10)]
theorem flL_ok : AllF (fieldIs Try.prog) flL := by
  refine And.intro (fld_mk (ft := 0) Try.underlying7 rfl rfl (inf_of rfl) (by decide)) ?_
  refine And.intro (fld_mk (ft := 0) Try.underlying7 rfl rfl (inf_of rfl) (by decide)) ?_
  refine And.intro (fld_mk (ft := 0) Try.underlying7 rfl rfl (inf_of rfl) (by decide)) ?_
  refine And.intro (fld_mk (ft := 0) Try.underlying7 rfl rfl (inf_of rfl) (by decide)) ?_
  refine And.intro (fld_mk (ft := 0) Try.underlying8 rfl rfl (inf_of rfl) (by decide)) ?_
  refine And.intro (fld_mk (ft := 0) Try.underlying8 rfl rfl (inf_of rfl) (by decide)) ?_
  refine And.intro (fld_mk (ft := 0) Try.underlying8 rfl rfl (inf_of rfl) (by decide)) ?_
  refine And.intro (fld_mk (ft := 0) Try.underlying8 rfl rfl (inf_of rfl) (by decide)) ?_
  refine And.intro (fld_mk (ft := 0) Try.underlying13 rfl rfl (inf_of rfl) (by decide)) ?_
  refine And.intro (fld_mk (ft := 0) Try.underlying13 rfl rfl (inf_of rfl) (by decide)) ?_
  refine And.intro (fld_mk (ft := 0) Try.underlying14 rfl rfl (inf_of rfl) (by decide)) ?_
  refine And.intro (fld_mk (ft := 0) Try.underlying14 rfl rfl (inf_of rfl) (by decide)) ?_
  refine And.intro (fld_mk (ft := 0) Try.underlying18 rfl rfl (inf_of rfl) (by decide)) ?_
  refine And.intro (fld_mk (ft := 0) Try.underlying19 rfl rfl (inf_of rfl) (by decide)) ?_
  refine And.intro (fld_mk (ft := 0) Try.underlying23 rfl rfl (inf_of rfl) (by decide)) ?_
  refine And.intro (fld_mk (ft := 0) Try.underlying23 rfl rfl (inf_of rfl) (by decide)) ?_
  refine And.intro (fld_mk (ft := 0) Try.underlying23 rfl rfl (inf_of rfl) (by decide)) ?_
  refine And.intro (fld_mk (ft := 0) Try.underlying23 rfl rfl (inf_of rfl) (by decide)) ?_
  refine And.intro (fld_mk (ft := 0) Try.underlying23 rfl rfl (inf_of rfl) (by decide)) ?_
  refine And.intro (fld_mk (ft := 0) Try.underlying23 rfl rfl (inf_of rfl) (by decide)) ?_
  refine And.intro (fld_mk (ft := 0) Try.underlying23 rfl rfl (inf_of rfl) (by decide)) ?_
  refine And.intro (fld_mk (ft := 0) Try.underlying23 rfl rfl (inf_of rfl) (by decide)) ?_
  refine And.intro (fld_mk (ft := 0) Try.underlying23 rfl rfl (inf_of rfl) (by decide)) ?_
  refine And.intro (fld_mk (ft := 0) Try.underlying23 rfl rfl (inf_of rfl) (by decide)) ?_
  refine And.intro (fld_mk (ft := 0) Try.underlying24 rfl rfl (inf_of rfl) (by decide)) ?_
  refine And.intro (fld_mk (ft := 0) Try.underlying24 rfl rfl (inf_of rfl) (by decide)) ?_
  refine And.intro (fld_mk (ft := 0) Try.underlying24 rfl rfl (inf_of rfl) (by decide)) ?_
  refine And.intro (fld_mk (ft := 0) Try.underlying24 rfl rfl (inf_of rfl) (by decide)) ?_
  refine And.intro (fld_mk (ft := 0) Try.underlying24 rfl rfl (inf_of rfl) (by decide)) ?_
  refine And.intro (fld_mk (ft := 0) Try.underlying24 rfl rfl (inf_of rfl) (by decide)) ?_
  refine And.intro (fld_mk (ft := 0) Try.underlying24 rfl rfl (inf_of rfl) (by decide)) ?_
  refine And.intro (fld_mk (ft := 0) Try.underlying24 rfl rfl (inf_of rfl) (by decide)) ?_
  refine And.intro (fld_mk (ft := 0) Try.underlying24 rfl rfl (inf_of rfl) (by decide)) ?_
  refine And.intro (fld_mk (ft := 0) Try.underlying24 rfl rfl (inf_of rfl) (by decide)) ?_
  refine And.intro (fld_mk (ft := 0) Try.underlying30 rfl rfl (inf_of rfl) (by decide)) ?_
  refine And.intro (fld_mk (ft := 0) Try.underlying30 rfl rfl (inf_of rfl) (by decide)) ?_
  refine And.intro (fld_mk (ft := 0) Try.underlying30 rfl rfl (inf_of rfl) (by decide)) ?_
  refine And.intro (fld_mk (ft := 0) Try.underlying30 rfl rfl (inf_of rfl) (by decide)) ?_
  refine And.intro (fld_mk (ft := 0) Try.underlying30 rfl rfl (inf_of rfl) (by decide)) ?_
  refine And.intro (fld_mk (ft := 0) Try.underlying31 rfl rfl (inf_of rfl) (by decide)) ?_
  refine And.intro (fld_mk (ft := 0) Try.underlying31 rfl rfl (inf_of rfl) (by decide)) ?_
  refine And.intro (fld_mk (ft := 0) Try.underlying31 rfl rfl (inf_of rfl) (by decide)) ?_
  refine And.intro (fld_mk (ft := 0) Try.underlying31 rfl rfl (inf_of rfl) (by decide)) ?_
  refine And.intro (fld_mk (ft := 0) Try.underlying31 rfl rfl (inf_of rfl) (by decide)) ?_
  refine And.intro (fld_mk (ft := 0) Try.underlying53 rfl rfl (inf_of rfl) (by decide)) ?_
  refine And.intro (fld_mk (ft := 0) Try.underlying53 rfl rfl (inf_of rfl) (by decide)) ?_
  refine And.intro (fld_mk (ft := 0) Try.underlying53 rfl rfl (inf_of rfl) (by decide)) ?_
  refine And.intro (fld_mk (ft := 0) Try.underlying54 rfl rfl (inf_of rfl) (by decide)) ?_
  refine And.intro (fld_mk (ft := 0) Try.underlying54 rfl rfl (inf_of rfl) (by decide)) ?_
  refine And.intro (fld_mk (ft := 0) Try.underlying54 rfl rfl (inf_of rfl) (by decide)) ?_
  refine And.intro (fld_mk (ft := 0) Try.underlying89 rfl rfl (inf_of rfl) (by decide)) ?_
  refine And.intro (fld_mk (ft := 0) Try.underlying89 rfl rfl (inf_of rfl) (by decide)) ?_
  refine And.intro (fld_mk (ft := 0) Try.underlying89 rfl rfl (inf_of rfl) (by decide)) ?_
  refine And.intro (fld_mk (ft := 0) Try.underlying89 rfl rfl (inf_of rfl) (by decide)) ?_
  refine And.intro (fld_mk (ft := 0) Try.underlying90 rfl rfl (inf_of rfl) (by decide)) ?_
  refine And.intro (fld_mk (ft := 0) Try.underlying90 rfl rfl (inf_of rfl) (by decide)) ?_
  refine And.intro (fld_mk (ft := 0) Try.underlying90 rfl rfl (inf_of rfl) (by decide)) ?_
  refine And.intro (fld_mk (ft := 0) Try.underlying90 rfl rfl (inf_of rfl) (by decide)) ?_
  refine And.intro (fld_mk (ft := 0) Try.underlying102 rfl rfl (inf_of rfl) (by decide)) ?_
  refine And.intro (fld_mk (ft := 0) Try.underlying102 rfl rfl (inf_of rfl) (by decide)) ?_
  refine And.intro (fld_mk (ft := 0) Try.underlying102 rfl rfl (inf_of rfl) (by decide)) ?_
  refine And.intro (fld_mk (ft := 0) Try.underlying102 rfl rfl (inf_of rfl) (by decide)) ?_
  refine And.intro (fld_mk (ft := 0) Try.underlying102 rfl rfl (inf_of rfl) (by decide)) ?_
  refine And.intro (fld_mk (ft := 0) Try.underlying102 rfl rfl (inf_of rfl) (by decide)) ?_
  refine And.intro (fld_mk (ft := 0) Try.underlying102 rfl rfl (inf_of rfl) (by decide)) ?_
  refine And.intro (fld_mk (ft := 0) Try.underlying102 rfl rfl (inf_of rfl) (by decide)) ?_
  refine And.intro (fld_mk (ft := 0) Try.underlying102 rfl rfl (inf_of rfl) (by decide)) ?_
  refine And.intro (fld_mk (ft := 0) Try.underlying102 rfl rfl (inf_of rfl) (by decide)) ?_
  refine And.intro (fld_mk (ft := 0) Try.underlying102 rfl rfl (inf_of rfl) (by decide)) ?_
  refine And.intro (fld_mk (ft := 0) Try.underlying103 rfl rfl (inf_of rfl) (by decide)) ?_
  refine And.intro (fld_mk (ft := 0) Try.underlying103 rfl rfl (inf_of rfl) (by decide)) ?_
  refine And.intro (fld_mk (ft := 0) Try.underlying103 rfl rfl (inf_of rfl) (by decide)) ?_
  refine And.intro (fld_mk (ft := 0) Try.underlying103 rfl rfl (inf_of rfl) (by decide)) ?_
  refine And.intro (fld_mk (ft := 0) Try.underlying103 rfl rfl (inf_of rfl) (by decide)) ?_
  refine And.intro (fld_mk (ft := 0) Try.underlying103 rfl rfl (inf_of rfl) (by decide)) ?_
  refine And.intro (fld_mk (ft := 0) Try.underlying103 rfl rfl (inf_of rfl) (by decide)) ?_
  refine And.intro (fld_mk (ft := 0) Try.underlying103 rfl rfl (inf_of rfl) (by decide)) ?_
  refine And.intro (fld_mk (ft := 0) Try.underlying103 rfl rfl (inf_of rfl) (by decide)) ?_
  refine And.intro (fld_mk (ft := 0) Try.underlying103 rfl rfl (inf_of rfl) (by decide)) ?_
  refine And.intro (fld_mk (ft := 0) Try.underlying103 rfl rfl (inf_of rfl) (by decide)) ?_
  exact trivial
theorem fld_of {t f off : Nat} (h : lkF flL t f = some off) : fieldIs Try.prog t f off := flL_ok.get h
noncomputable def ptL : List (Nat × Unit) := [(15, ()), (16, ()), (17, ()), (99, ())]
end Go.Proofs.ZtLe
