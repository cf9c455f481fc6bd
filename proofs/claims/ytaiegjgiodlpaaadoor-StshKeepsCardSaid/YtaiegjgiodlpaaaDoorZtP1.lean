/- A part of the proof of StshKeeps: walks of the functions that it reaches. No condition. -/
import Derived.Test.YtaiegjgiodlpaaaDoorProg
import Derived.Test.YtaiegjgiodlpaaaDoorZmP2
import Derived.KernelRfl
import Derived.Test.YtaiegjgiodlpaaaDoorZmAuto
namespace Go.Proofs.ZtLe
open Go.RowKit Go.Proofs Go.Proofs.Zm
set_option linter.unusedVariables false
set_option maxHeartbeats 20000000
set_option maxRecDepth 100000
attribute [local irreducible] ZWp ZOps ZPure ZPure0 ZVal ZOp SoundF
set_option maxRecDepth 100000
noncomputable def infL : List (Nat × Nat × Nat × Option Value) := [(1, 1, 8, some (.nilFunc)), (2, 1, 8, some (.int .i64 0)), (3, 1, 8, some (.int .i64 0)), (4, 1, 1, some (.bool false)), (5, 1, 1, some (.int .u8 0)), (6, 1, 1, some (.int .u8 0)), (7, 4, 24, some (.agg #[.int .i64 0, .int .i64 0, .bool false, .int .u8 0])), (8, 4, 24, some (.agg #[.int .i64 0, .int .i64 0, .bool false, .int .u8 0])), (9, 1, 16, some (.string ⟨#[]⟩)), (10, 1, 16, some (.string ⟨#[]⟩)), (11, 1, 16, some (.string ⟨#[]⟩)), (12, 1, 8, some (.int .u64 0)), (13, 2, 24, some (.agg #[.string ⟨#[]⟩, .int .u64 0])), (14, 2, 24, some (.agg #[.string ⟨#[]⟩, .int .u64 0])), (15, 1, 8, some (.pointer none)), (16, 1, 8, some (.pointer none)), (17, 1, 8, some (.pointer none)), (18, 1, 8, some (.agg #[.pointer none])), (19, 1, 8, some (.agg #[.pointer none])), (20, 1, 16, some (.nilIface)), (21, 1, 4, some (.int .i32 0)), (22, 1, 24, some (.slice none 0 0)), (23, 1, 8, some (.pointer none)), (24, 1, 8, some (.nilFunc)), (25, 1, 8, some (.map none)), (26, 1, 8, some (.int .u64 0)), (27, 1, 24, some (.slice none 0 0)), (28, 3, 40, some (.agg #[.int .i64 0, .int .i64 0, .slice none 0 0])), (29, 3, 40, some (.agg #[.int .i64 0, .int .i64 0, .slice none 0 0])), (31, 1, 8, some (.nilFunc)), (32, 1, 8, some (.nilFunc)), (33, 1, 8, some (.nilFunc)), (34, 1, 8, some (.nilFunc)), (35, 1, 8, some (.nilFunc)), (36, 1, 8, some (.nilFunc)), (37, 1, 24, some (.slice none 0 0)), (38, 1, 8, some (.nilFunc)), (39, 1, 8, some (.nilFunc)), (40, 1, 8, some (.map none)), (41, 1, 8, some (.nilFunc)), (42, 1, 8, some (.nilFunc)), (43, 1, 8, some (.nilFunc)), (44, 1, 8, some (.nilFunc)), (45, 1, 24, some (.slice none 0 0)), (46, 1, 8, some (.pointer none)), (47, 1, 8, some (.nilFunc)), (48, 5, 56, some (.agg #[.int .i64 0, .int .i64 0, .int .i64 0, .int .i64 0, .slice none 0 0])), (49, 5, 56, some (.agg #[.int .i64 0, .int .i64 0, .int .i64 0, .int .i64 0, .slice none 0 0])), (50, 1, 8, some (.nilFunc)), (51, 1, 8, some (.nilFunc)), (52, 3, 40, some (.agg #[.int .i64 0, .int .i64 0, .slice none 0 0])), (53, 3, 40, some (.agg #[.int .i64 0, .int .i64 0, .slice none 0 0])), (54, 1, 8, some (.nilFunc)), (55, 1, 8, some (.nilFunc)), (56, 1, 8, some (.nilFunc)), (57, 1, 8, some (.map none)), (58, 3, 24, some (.agg #[.int .i64 0, .int .i64 0, .map none])), (59, 3, 24, some (.agg #[.int .i64 0, .int .i64 0, .map none])), (60, 1, 8, some (.nilFunc)), (61, 1, 8, some (.nilFunc)), (62, 1, 8, some (.nilFunc)), (63, 1, 8, some (.int .u64 0)), (64, 1, 8, some (.nilFunc)), (66, 1, 8, some (.nilFunc)), (67, 1, 8, some (.nilFunc)), (68, 1, 8, some (.nilFunc)), (69, 1, 8, some (.nilFunc)), (70, 1, 8, some (.nilFunc)), (71, 1, 8, some (.nilFunc)), (73, 1, 8, some (.nilFunc)), (74, 1, 8, some (.nilFunc)), (75, 1, 8, some (.nilFunc)), (76, 1, 8, some (.nilFunc)), (77, 1, 8, some (.nilFunc)), (78, 1, 8, some (.nilFunc)), (79, 1, 8, some (.nilFunc)), (80, 1, 8, some (.nilFunc)), (81, 1, 8, some (.nilFunc)), (82, 1, 8, some (.nilFunc)), (83, 1, 8, some (.nilFunc)), (84, 1, 24, some (.slice none 0 0)), (85, 1, 8, some (.nilFunc)), (86, 1, 8, some (.nilFunc)), (87, 1, 4, some (.int .u32 0)), (88, 1, 8, some (.nilFunc)), (89, 1, 8, some (.nilFunc)), (90, 1, 8, some (.nilFunc)), (91, 1, 8, some (.nilFunc)), (92, 1, 8, some (.int .i64 0)), (94, 1, 8, some (.nilFunc)), (95, 1, 8, some (.nilFunc)), (96, 1, 8, some (.nilFunc)), (97, 1, 8, some (.nilFunc)), (98, 32, 32, some (.agg #[.int .u8 0, .int .u8 0, .int .u8 0, .int .u8 0, .int .u8 0, .int .u8 0, .int .u8 0, .int .u8 0, .int .u8 0, .int .u8 0, .int .u8 0, .int .u8 0, .int .u8 0, .int .u8 0, .int .u8 0, .int .u8 0, .int .u8 0, .int .u8 0, .int .u8 0, .int .u8 0, .int .u8 0, .int .u8 0, .int .u8 0, .int .u8 0, .int .u8 0, .int .u8 0, .int .u8 0, .int .u8 0, .int .u8 0, .int .u8 0, .int .u8 0, .int .u8 0])), (99, 64, 64, some (.agg #[.int .u8 0, .int .u8 0, .int .u8 0, .int .u8 0, .int .u8 0, .int .u8 0, .int .u8 0, .int .u8 0, .int .u8 0, .int .u8 0, .int .u8 0, .int .u8 0, .int .u8 0, .int .u8 0, .int .u8 0, .int .u8 0, .int .u8 0, .int .u8 0, .int .u8 0, .int .u8 0, .int .u8 0, .int .u8 0, .int .u8 0, .int .u8 0, .int .u8 0, .int .u8 0, .int .u8 0, .int .u8 0, .int .u8 0, .int .u8 0, .int .u8 0, .int .u8 0, .int .u8 0, .int .u8 0, .int .u8 0, .int .u8 0, .int .u8 0, .int .u8 0, .int .u8 0, .int .u8 0, .int .u8 0, .int .u8 0, .int .u8 0, .int .u8 0, .int .u8 0, .int .u8 0, .int .u8 0, .int .u8 0, .int .u8 0, .int .u8 0, .int .u8 0, .int .u8 0, .int .u8 0, .int .u8 0, .int .u8 0, .int .u8 0, .int .u8 0, .int .u8 0, .int .u8 0, .int .u8 0, .int .u8 0, .int .u8 0, .int .u8 0, .int .u8 0])), (100, 1, 8, some (.int .u64 0)), (101, 1, 8, some (.nilFunc)), (102, 1, 8, some (.nilFunc)), (103, 1, 8, some (.nilFunc)), (104, 1, 8, some (.pointer none)), (105, 1, 8, some (.nilFunc)), (106, 1, 8, some (.pointer none)), (108, 1, 8, some (.nilFunc)), (109, 1, 8, some (.nilFunc)), (110, 4, 40, some (.agg #[.pointer none, .pointer none, .pointer none, .string ⟨#[]⟩])), (111, 4, 40, some (.agg #[.pointer none, .pointer none, .pointer none, .string ⟨#[]⟩])), (115, 1, 1, some (.int .u8 0)), (116, 1, 1, some (.int .u8 0)), (117, 1, 8, some (.nilFunc)), (118, 1, 8, some (.pointer none)), (119, 1, 4, some (.int .i32 0)), (120, 1, 4, some (.int .i32 0)), (121, 11, 48, some (.agg #[.int .u64 0, .int .u64 0, .int .u32 0, .int .u8 0, .int .u8 0, .int .u8 0, .int .u8 0, .nilFunc, .pointer none, .int .i32 0, .int .i32 0])), (122, 11, 48, some (.agg #[.int .u64 0, .int .u64 0, .int .u32 0, .int .u8 0, .int .u8 0, .int .u8 0, .int .u8 0, .nilFunc, .pointer none, .int .i32 0, .int .i32 0]))]
theorem infL_ok : infL.map (fun r => inf3 Tryd.prog r.1) = infL.map (fun r => some r.2) := by kernel_rfl
theorem inf_of {t : Nat} {r : Nat × Nat × Option Value} (h : lkT infL t = some r) : inf3 Tryd.prog t = some r := (allT_inf infL_ok).get h
theorem sz_of {t k b : Nat} {z : Option Value} (h : lkT infL t = some (k, b, z)) : (Tryd.prog.info? t).map (·.size) = some k := sz_mk (inf_of h)
theorem ii_of {t k b : Nat} {z : Option Value} (h : lkT infL t = some (k, b, z)) : ∃ i, Tryd.prog.info? t = some i ∧ i.size = k := ii_mk (inf_of h)
noncomputable def elL : List (Nat × (Nat × Nat × List D)) := [(1, (1, 8, [.v (.nilFunc)])), (2, (1, 8, [.v (.int .i64 0)])), (3, (1, 8, [.v (.int .i64 0)])), (4, (1, 1, [.v (.bool false)])), (5, (1, 1, [.v (.int .u8 0)])), (6, (1, 1, [.v (.int .u8 0)])), (7, (4, 24, [.v (.int .i64 0), .v (.int .i64 0), .v (.bool false), .v (.int .u8 0)])), (8, (4, 24, [.v (.int .i64 0), .v (.int .i64 0), .v (.bool false), .v (.int .u8 0)])), (9, (1, 16, [.v (.string ⟨#[]⟩)])), (10, (1, 16, [.v (.string ⟨#[]⟩)])), (11, (1, 16, [.v (.string ⟨#[]⟩)])), (12, (1, 8, [.v (.int .u64 0)])), (13, (2, 24, [.v (.string ⟨#[]⟩), .v (.int .u64 0)])), (14, (2, 24, [.v (.string ⟨#[]⟩), .v (.int .u64 0)])), (15, (1, 8, [.v (.pointer none)])), (16, (1, 8, [.v (.pointer none)])), (17, (1, 8, [.v (.pointer none)])), (18, (1, 8, [.v (.pointer none)])), (19, (1, 8, [.v (.pointer none)])), (20, (1, 16, [.v (.nilIface)])), (21, (1, 4, [.v (.int .i32 0)])), (22, (1, 24, [.v (.slice none 0 0)])), (23, (1, 8, [.v (.pointer none)])), (24, (1, 8, [.v (.nilFunc)])), (25, (1, 8, [.v (.map none)])), (26, (1, 8, [.v (.int .u64 0)])), (27, (1, 24, [.v (.slice none 0 0)])), (28, (3, 40, [.v (.int .i64 0), .v (.int .i64 0), .v (.slice none 0 0)])), (29, (3, 40, [.v (.int .i64 0), .v (.int .i64 0), .v (.slice none 0 0)])), (31, (1, 8, [.v (.nilFunc)])), (32, (1, 8, [.v (.nilFunc)])), (33, (1, 8, [.v (.nilFunc)])), (34, (1, 8, [.v (.nilFunc)])), (35, (1, 8, [.v (.nilFunc)])), (36, (1, 8, [.v (.nilFunc)])), (37, (1, 24, [.v (.slice none 0 0)])), (38, (1, 8, [.v (.nilFunc)])), (39, (1, 8, [.v (.nilFunc)])), (40, (1, 8, [.v (.map none)])), (41, (1, 8, [.v (.nilFunc)])), (42, (1, 8, [.v (.nilFunc)])), (43, (1, 8, [.v (.nilFunc)])), (44, (1, 8, [.v (.nilFunc)])), (45, (1, 24, [.v (.slice none 0 0)])), (46, (1, 8, [.v (.pointer none)])), (47, (1, 8, [.v (.nilFunc)])), (48, (5, 56, [.v (.int .i64 0), .v (.int .i64 0), .v (.int .i64 0), .v (.int .i64 0), .v (.slice none 0 0)])), (49, (5, 56, [.v (.int .i64 0), .v (.int .i64 0), .v (.int .i64 0), .v (.int .i64 0), .v (.slice none 0 0)])), (50, (1, 8, [.v (.nilFunc)])), (51, (1, 8, [.v (.nilFunc)])), (52, (3, 40, [.v (.int .i64 0), .v (.int .i64 0), .v (.slice none 0 0)])), (53, (3, 40, [.v (.int .i64 0), .v (.int .i64 0), .v (.slice none 0 0)])), (54, (1, 8, [.v (.nilFunc)])), (55, (1, 8, [.v (.nilFunc)])), (56, (1, 8, [.v (.nilFunc)])), (57, (1, 8, [.v (.map none)])), (58, (3, 24, [.v (.int .i64 0), .v (.int .i64 0), .v (.map none)])), (59, (3, 24, [.v (.int .i64 0), .v (.int .i64 0), .v (.map none)])), (60, (1, 8, [.v (.nilFunc)])), (61, (1, 8, [.v (.nilFunc)])), (62, (1, 8, [.v (.nilFunc)])), (63, (1, 8, [.v (.int .u64 0)])), (64, (1, 8, [.v (.nilFunc)])), (66, (1, 8, [.v (.nilFunc)])), (67, (1, 8, [.v (.nilFunc)])), (68, (1, 8, [.v (.nilFunc)])), (69, (1, 8, [.v (.nilFunc)])), (70, (1, 8, [.v (.nilFunc)])), (71, (1, 8, [.v (.nilFunc)])), (73, (1, 8, [.v (.nilFunc)])), (74, (1, 8, [.v (.nilFunc)])), (75, (1, 8, [.v (.nilFunc)])), (76, (1, 8, [.v (.nilFunc)])), (77, (1, 8, [.v (.nilFunc)])), (78, (1, 8, [.v (.nilFunc)])), (79, (1, 8, [.v (.nilFunc)])), (80, (1, 8, [.v (.nilFunc)])), (81, (1, 8, [.v (.nilFunc)])), (82, (1, 8, [.v (.nilFunc)])), (83, (1, 8, [.v (.nilFunc)])), (84, (1, 24, [.v (.slice none 0 0)])), (85, (1, 8, [.v (.nilFunc)])), (86, (1, 8, [.v (.nilFunc)])), (87, (1, 4, [.v (.int .u32 0)])), (88, (1, 8, [.v (.nilFunc)])), (89, (1, 8, [.v (.nilFunc)])), (90, (1, 8, [.v (.nilFunc)])), (91, (1, 8, [.v (.nilFunc)])), (92, (1, 8, [.v (.int .i64 0)])), (94, (1, 8, [.v (.nilFunc)])), (95, (1, 8, [.v (.nilFunc)])), (96, (1, 8, [.v (.nilFunc)])), (97, (1, 8, [.v (.nilFunc)])), (98, (32, 32, [.v (.int .u8 0), .v (.int .u8 0), .v (.int .u8 0), .v (.int .u8 0), .v (.int .u8 0), .v (.int .u8 0), .v (.int .u8 0), .v (.int .u8 0), .v (.int .u8 0), .v (.int .u8 0), .v (.int .u8 0), .v (.int .u8 0), .v (.int .u8 0), .v (.int .u8 0), .v (.int .u8 0), .v (.int .u8 0), .v (.int .u8 0), .v (.int .u8 0), .v (.int .u8 0), .v (.int .u8 0), .v (.int .u8 0), .v (.int .u8 0), .v (.int .u8 0), .v (.int .u8 0), .v (.int .u8 0), .v (.int .u8 0), .v (.int .u8 0), .v (.int .u8 0), .v (.int .u8 0), .v (.int .u8 0), .v (.int .u8 0), .v (.int .u8 0)])), (99, (64, 64, [.v (.int .u8 0), .v (.int .u8 0), .v (.int .u8 0), .v (.int .u8 0), .v (.int .u8 0), .v (.int .u8 0), .v (.int .u8 0), .v (.int .u8 0), .v (.int .u8 0), .v (.int .u8 0), .v (.int .u8 0), .v (.int .u8 0), .v (.int .u8 0), .v (.int .u8 0), .v (.int .u8 0), .v (.int .u8 0), .v (.int .u8 0), .v (.int .u8 0), .v (.int .u8 0), .v (.int .u8 0), .v (.int .u8 0), .v (.int .u8 0), .v (.int .u8 0), .v (.int .u8 0), .v (.int .u8 0), .v (.int .u8 0), .v (.int .u8 0), .v (.int .u8 0), .v (.int .u8 0), .v (.int .u8 0), .v (.int .u8 0), .v (.int .u8 0), .v (.int .u8 0), .v (.int .u8 0), .v (.int .u8 0), .v (.int .u8 0), .v (.int .u8 0), .v (.int .u8 0), .v (.int .u8 0), .v (.int .u8 0), .v (.int .u8 0), .v (.int .u8 0), .v (.int .u8 0), .v (.int .u8 0), .v (.int .u8 0), .v (.int .u8 0), .v (.int .u8 0), .v (.int .u8 0), .v (.int .u8 0), .v (.int .u8 0), .v (.int .u8 0), .v (.int .u8 0), .v (.int .u8 0), .v (.int .u8 0), .v (.int .u8 0), .v (.int .u8 0), .v (.int .u8 0), .v (.int .u8 0), .v (.int .u8 0), .v (.int .u8 0), .v (.int .u8 0), .v (.int .u8 0), .v (.int .u8 0), .v (.int .u8 0)])), (100, (1, 8, [.v (.int .u64 0)])), (101, (1, 8, [.v (.nilFunc)])), (102, (1, 8, [.v (.nilFunc)])), (103, (1, 8, [.v (.nilFunc)])), (104, (1, 8, [.v (.pointer none)])), (105, (1, 8, [.v (.nilFunc)])), (106, (1, 8, [.v (.pointer none)])), (108, (1, 8, [.v (.nilFunc)])), (109, (1, 8, [.v (.nilFunc)])), (110, (4, 40, [.v (.pointer none), .v (.pointer none), .v (.pointer none), .v (.string ⟨#[]⟩)])), (111, (4, 40, [.v (.pointer none), .v (.pointer none), .v (.pointer none), .v (.string ⟨#[]⟩)])), (115, (1, 1, [.v (.int .u8 0)])), (116, (1, 1, [.v (.int .u8 0)])), (117, (1, 8, [.v (.nilFunc)])), (118, (1, 8, [.v (.pointer none)])), (119, (1, 4, [.v (.int .i32 0)])), (120, (1, 4, [.v (.int .i32 0)])), (121, (11, 48, [.v (.int .u64 0), .v (.int .u64 0), .v (.int .u32 0), .v (.int .u8 0), .v (.int .u8 0), .v (.int .u8 0), .v (.int .u8 0), .v (.nilFunc), .v (.pointer none), .v (.int .i32 0), .v (.int .i32 0)])), (122, (11, 48, [.v (.int .u64 0), .v (.int .u64 0), .v (.int .u32 0), .v (.int .u8 0), .v (.int .u8 0), .v (.int .u8 0), .v (.int .u8 0), .v (.nilFunc), .v (.pointer none), .v (.int .i32 0), .v (.int .i32 0)]))]
theorem elL_ok : AllT (fun t r => ElemOk Tryd.prog t r.1 r.2.1 r.2.2) elL := by
  refine And.intro (el_mk (inf_of rfl) rfl rfl (by decide) (by decide)) ?_
  refine And.intro (el_mk (inf_of rfl) rfl rfl (by decide) (by decide)) ?_
  refine And.intro (el_mk (inf_of rfl) rfl rfl (by decide) (by decide)) ?_
  refine And.intro (el_mk (inf_of rfl) rfl rfl (by decide) (by decide)) ?_
  refine And.intro (el_mk (inf_of rfl) rfl rfl (by decide) (by decide)) ?_
  refine And.intro (el_mk (inf_of rfl) rfl rfl (by decide) (by decide)) ?_
  refine And.intro (el_mk (inf_of rfl) rfl rfl (by decide) (by decide)) ?_
  refine And.intro (el_mk (inf_of rfl) rfl rfl (by decide) (by decide)) ?_
  refine And.intro (el_mk (inf_of rfl) rfl rfl (by decide) (by decide)) ?_
  refine And.intro (el_mk (inf_of rfl) rfl rfl (by decide) (by decide)) ?_
  refine And.intro (el_mk (inf_of rfl) rfl rfl (by decide) (by decide)) ?_
  refine And.intro (el_mk (inf_of rfl) rfl rfl (by decide) (by decide)) ?_
  refine And.intro (el_mk (inf_of rfl) rfl rfl (by decide) (by decide)) ?_
  refine And.intro (el_mk (inf_of rfl) rfl rfl (by decide) (by decide)) ?_
  refine And.intro (el_mk (inf_of rfl) rfl rfl (by decide) (by decide)) ?_
  refine And.intro (el_mk (inf_of rfl) rfl rfl (by decide) (by decide)) ?_
  refine And.intro (el_mk (inf_of rfl) rfl rfl (by decide) (by decide)) ?_
  refine And.intro (el_mk (inf_of rfl) rfl rfl (by decide) (by decide)) ?_
  refine And.intro (el_mk (inf_of rfl) rfl rfl (by decide) (by decide)) ?_
  refine And.intro (el_mk (inf_of rfl) rfl rfl (by decide) (by decide)) ?_
  refine And.intro (el_mk (inf_of rfl) rfl rfl (by decide) (by decide)) ?_
  refine And.intro (el_mk (inf_of rfl) rfl rfl (by decide) (by decide)) ?_
  refine And.intro (el_mk (inf_of rfl) rfl rfl (by decide) (by decide)) ?_
  refine And.intro (el_mk (inf_of rfl) rfl rfl (by decide) (by decide)) ?_
  refine And.intro (el_mk (inf_of rfl) rfl rfl (by decide) (by decide)) ?_
  refine And.intro (el_mk (inf_of rfl) rfl rfl (by decide) (by decide)) ?_
  refine And.intro (el_mk (inf_of rfl) rfl rfl (by decide) (by decide)) ?_
  refine And.intro (el_mk (inf_of rfl) rfl rfl (by decide) (by decide)) ?_
  refine And.intro (el_mk (inf_of rfl) rfl rfl (by decide) (by decide)) ?_
  refine And.intro (el_mk (inf_of rfl) rfl rfl (by decide) (by decide)) ?_
  refine And.intro (el_mk (inf_of rfl) rfl rfl (by decide) (by decide)) ?_
  refine And.intro (el_mk (inf_of rfl) rfl rfl (by decide) (by decide)) ?_
  refine And.intro (el_mk (inf_of rfl) rfl rfl (by decide) (by decide)) ?_
  refine And.intro (el_mk (inf_of rfl) rfl rfl (by decide) (by decide)) ?_
  refine And.intro (el_mk (inf_of rfl) rfl rfl (by decide) (by decide)) ?_
  refine And.intro (el_mk (inf_of rfl) rfl rfl (by decide) (by decide)) ?_
  refine And.intro (el_mk (inf_of rfl) rfl rfl (by decide) (by decide)) ?_
  refine And.intro (el_mk (inf_of rfl) rfl rfl (by decide) (by decide)) ?_
  refine And.intro (el_mk (inf_of rfl) rfl rfl (by decide) (by decide)) ?_
  refine And.intro (el_mk (inf_of rfl) rfl rfl (by decide) (by decide)) ?_
  refine And.intro (el_mk (inf_of rfl) rfl rfl (by decide) (by decide)) ?_
  refine And.intro (el_mk (inf_of rfl) rfl rfl (by decide) (by decide)) ?_
  refine And.intro (el_mk (inf_of rfl) rfl rfl (by decide) (by decide)) ?_
  refine And.intro (el_mk (inf_of rfl) rfl rfl (by decide) (by decide)) ?_
  refine And.intro (el_mk (inf_of rfl) rfl rfl (by decide) (by decide)) ?_
  refine And.intro (el_mk (inf_of rfl) rfl rfl (by decide) (by decide)) ?_
  refine And.intro (el_mk (inf_of rfl) rfl rfl (by decide) (by decide)) ?_
  refine And.intro (el_mk (inf_of rfl) rfl rfl (by decide) (by decide)) ?_
  refine And.intro (el_mk (inf_of rfl) rfl rfl (by decide) (by decide)) ?_
  refine And.intro (el_mk (inf_of rfl) rfl rfl (by decide) (by decide)) ?_
  refine And.intro (el_mk (inf_of rfl) rfl rfl (by decide) (by decide)) ?_
  refine And.intro (el_mk (inf_of rfl) rfl rfl (by decide) (by decide)) ?_
  refine And.intro (el_mk (inf_of rfl) rfl rfl (by decide) (by decide)) ?_
  refine And.intro (el_mk (inf_of rfl) rfl rfl (by decide) (by decide)) ?_
  refine And.intro (el_mk (inf_of rfl) rfl rfl (by decide) (by decide)) ?_
  refine And.intro (el_mk (inf_of rfl) rfl rfl (by decide) (by decide)) ?_
  refine And.intro (el_mk (inf_of rfl) rfl rfl (by decide) (by decide)) ?_
  refine And.intro (el_mk (inf_of rfl) rfl rfl (by decide) (by decide)) ?_
  refine And.intro (el_mk (inf_of rfl) rfl rfl (by decide) (by decide)) ?_
  refine And.intro (el_mk (inf_of rfl) rfl rfl (by decide) (by decide)) ?_
  refine And.intro (el_mk (inf_of rfl) rfl rfl (by decide) (by decide)) ?_
  refine And.intro (el_mk (inf_of rfl) rfl rfl (by decide) (by decide)) ?_
  refine And.intro (el_mk (inf_of rfl) rfl rfl (by decide) (by decide)) ?_
  refine And.intro (el_mk (inf_of rfl) rfl rfl (by decide) (by decide)) ?_
  refine And.intro (el_mk (inf_of rfl) rfl rfl (by decide) (by decide)) ?_
  refine And.intro (el_mk (inf_of rfl) rfl rfl (by decide) (by decide)) ?_
  refine And.intro (el_mk (inf_of rfl) rfl rfl (by decide) (by decide)) ?_
  refine And.intro (el_mk (inf_of rfl) rfl rfl (by decide) (by decide)) ?_
  refine And.intro (el_mk (inf_of rfl) rfl rfl (by decide) (by decide)) ?_
  refine And.intro (el_mk (inf_of rfl) rfl rfl (by decide) (by decide)) ?_
  refine And.intro (el_mk (inf_of rfl) rfl rfl (by decide) (by decide)) ?_
  refine And.intro (el_mk (inf_of rfl) rfl rfl (by decide) (by decide)) ?_
  refine And.intro (el_mk (inf_of rfl) rfl rfl (by decide) (by decide)) ?_
  refine And.intro (el_mk (inf_of rfl) rfl rfl (by decide) (by decide)) ?_
  refine And.intro (el_mk (inf_of rfl) rfl rfl (by decide) (by decide)) ?_
  refine And.intro (el_mk (inf_of rfl) rfl rfl (by decide) (by decide)) ?_
  refine And.intro (el_mk (inf_of rfl) rfl rfl (by decide) (by decide)) ?_
  refine And.intro (el_mk (inf_of rfl) rfl rfl (by decide) (by decide)) ?_
  refine And.intro (el_mk (inf_of rfl) rfl rfl (by decide) (by decide)) ?_
  refine And.intro (el_mk (inf_of rfl) rfl rfl (by decide) (by decide)) ?_
  refine And.intro (el_mk (inf_of rfl) rfl rfl (by decide) (by decide)) ?_
  refine And.intro (el_mk (inf_of rfl) rfl rfl (by decide) (by decide)) ?_
  refine And.intro (el_mk (inf_of rfl) rfl rfl (by decide) (by decide)) ?_
  refine And.intro (el_mk (inf_of rfl) rfl rfl (by decide) (by decide)) ?_
  refine And.intro (el_mk (inf_of rfl) rfl rfl (by decide) (by decide)) ?_
  refine And.intro (el_mk (inf_of rfl) rfl rfl (by decide) (by decide)) ?_
  refine And.intro (el_mk (inf_of rfl) rfl rfl (by decide) (by decide)) ?_
  refine And.intro (el_mk (inf_of rfl) rfl rfl (by decide) (by decide)) ?_
  refine And.intro (el_mk (inf_of rfl) rfl rfl (by decide) (by decide)) ?_
  refine And.intro (el_mk (inf_of rfl) rfl rfl (by decide) (by decide)) ?_
  refine And.intro (el_mk (inf_of rfl) rfl rfl (by decide) (by decide)) ?_
  refine And.intro (el_mk (inf_of rfl) rfl rfl (by decide) (by decide)) ?_
  refine And.intro (el_mk (inf_of rfl) rfl rfl (by decide) (by decide)) ?_
  refine And.intro (el_mk (inf_of rfl) rfl rfl (by decide) (by decide)) ?_
  refine And.intro (el_mk (inf_of rfl) rfl rfl (by decide) (by decide)) ?_
  refine And.intro (el_mk (inf_of rfl) rfl rfl (by decide) (by decide)) ?_
  refine And.intro (el_mk (inf_of rfl) rfl rfl (by decide) (by decide)) ?_
  refine And.intro (el_mk (inf_of rfl) rfl rfl (by decide) (by decide)) ?_
  refine And.intro (el_mk (inf_of rfl) rfl rfl (by decide) (by decide)) ?_
  refine And.intro (el_mk (inf_of rfl) rfl rfl (by decide) (by decide)) ?_
  refine And.intro (el_mk (inf_of rfl) rfl rfl (by decide) (by decide)) ?_
  refine And.intro (el_mk (inf_of rfl) rfl rfl (by decide) (by decide)) ?_
  refine And.intro (el_mk (inf_of rfl) rfl rfl (by decide) (by decide)) ?_
  refine And.intro (el_mk (inf_of rfl) rfl rfl (by decide) (by decide)) ?_
  refine And.intro (el_mk (inf_of rfl) rfl rfl (by decide) (by decide)) ?_
  refine And.intro (el_mk (inf_of rfl) rfl rfl (by decide) (by decide)) ?_
  refine And.intro (el_mk (inf_of rfl) rfl rfl (by decide) (by decide)) ?_
  refine And.intro (el_mk (inf_of rfl) rfl rfl (by decide) (by decide)) ?_
  refine And.intro (el_mk (inf_of rfl) rfl rfl (by decide) (by decide)) ?_
  refine And.intro (el_mk (inf_of rfl) rfl rfl (by decide) (by decide)) ?_
  refine And.intro (el_mk (inf_of rfl) rfl rfl (by decide) (by decide)) ?_
  refine And.intro (el_mk (inf_of rfl) rfl rfl (by decide) (by decide)) ?_
  refine And.intro (el_mk (inf_of rfl) rfl rfl (by decide) (by decide)) ?_
  refine And.intro (el_mk (inf_of rfl) rfl rfl (by decide) (by decide)) ?_
  exact trivial
theorem el_of {t k b : Nat} {z : List D} (h : lkT elL t = some (k, b, z)) : ElemOk Tryd.prog t k b z := elL_ok.get h
noncomputable def slL : List (Nat × Nat) := [(22, 3), (27, 5), (37, 29), (45, 49), (84, 27)]
theorem slL_ok : AllT (fun t r => Tryd.prog.underlying t = some (.slice r)) slL := by
  refine And.intro (Tryd.underlying22) ?_
  refine And.intro (Tryd.underlying27) ?_
  refine And.intro (Tryd.underlying37) ?_
  refine And.intro (Tryd.underlying45) ?_
  refine And.intro (Tryd.underlying84) ?_
  exact trivial
theorem un_sl {t e : Nat} (h : lkT slL t = some e) : Tryd.prog.underlying t = some (.slice e) := slL_ok.get h
noncomputable def inL : List (Nat × IntKind) := [(2, .i64), (3, .i64), (5, .u8), (6, .u8), (12, .u64), (21, .i32), (26, .u64), (63, .u64), (87, .u32), (92, .i64), (100, .u64), (115, .u8), (116, .u8), (119, .i32), (120, .i32)]
theorem inL_ok : AllT (fun t r => Tryd.prog.underlying t = some (.int r)) inL := by
  refine And.intro (Tryd.underlying2) ?_
  refine And.intro (Tryd.underlying3) ?_
  refine And.intro (Tryd.underlying5) ?_
  refine And.intro (Tryd.underlying6) ?_
  refine And.intro (Tryd.underlying12) ?_
  refine And.intro (Tryd.underlying21) ?_
  refine And.intro (Tryd.underlying26) ?_
  refine And.intro (Tryd.underlying63) ?_
  refine And.intro (Tryd.underlying87) ?_
  refine And.intro (Tryd.underlying92) ?_
  refine And.intro (Tryd.underlying100) ?_
  refine And.intro (Tryd.underlying115) ?_
  refine And.intro (Tryd.underlying116) ?_
  refine And.intro (Tryd.underlying119) ?_
  refine And.intro (Tryd.underlying120) ?_
  exact trivial
theorem un_int {t : Nat} {e : IntKind} (h : lkT inL t = some e) : Tryd.prog.underlying t = some (.int e) := inL_ok.get h
noncomputable def shL : List (Nat × (Bool × Nat)) := [(1, (false, 1)), (2, (false, 1)), (3, (false, 1)), (4, (false, 1)), (5, (false, 1)), (6, (false, 1)), (7, (true, 4)), (8, (true, 4)), (9, (false, 1)), (10, (false, 1)), (11, (false, 1)), (12, (false, 1)), (13, (true, 2)), (14, (true, 2)), (15, (false, 1)), (16, (false, 1)), (17, (false, 1)), (18, (true, 1)), (19, (true, 1)), (20, (false, 1)), (21, (false, 1)), (22, (false, 1)), (23, (false, 1)), (24, (false, 1)), (25, (false, 1)), (26, (false, 1)), (27, (false, 1)), (28, (true, 3)), (29, (true, 3)), (31, (false, 1)), (32, (false, 1)), (33, (false, 1)), (34, (false, 1)), (35, (false, 1)), (36, (false, 1)), (37, (false, 1)), (38, (false, 1)), (39, (false, 1)), (40, (false, 1)), (41, (false, 1)), (42, (false, 1)), (43, (false, 1)), (44, (false, 1)), (45, (false, 1)), (46, (false, 1)), (47, (false, 1)), (48, (true, 5)), (49, (true, 5)), (50, (false, 1)), (51, (false, 1)), (52, (true, 3)), (53, (true, 3)), (54, (false, 1)), (55, (false, 1)), (56, (false, 1)), (57, (false, 1)), (58, (true, 3)), (59, (true, 3)), (60, (false, 1)), (61, (false, 1)), (62, (false, 1)), (63, (false, 1)), (64, (false, 1)), (66, (false, 1)), (67, (false, 1)), (68, (false, 1)), (69, (false, 1)), (70, (false, 1)), (71, (false, 1)), (73, (false, 1)), (74, (false, 1)), (75, (false, 1)), (76, (false, 1)), (77, (false, 1)), (78, (false, 1)), (79, (false, 1)), (80, (false, 1)), (81, (false, 1)), (82, (false, 1)), (83, (false, 1)), (84, (false, 1)), (85, (false, 1)), (86, (false, 1)), (87, (false, 1)), (88, (false, 1)), (89, (false, 1)), (90, (false, 1)), (91, (false, 1)), (92, (false, 1)), (94, (false, 1)), (95, (false, 1)), (96, (false, 1)), (97, (false, 1)), (98, (true, 32)), (99, (true, 64)), (100, (false, 1)), (101, (false, 1)), (102, (false, 1)), (103, (false, 1)), (104, (false, 1)), (105, (false, 1)), (106, (false, 1)), (108, (false, 1)), (109, (false, 1)), (110, (true, 4)), (111, (true, 4)), (115, (false, 1)), (116, (false, 1)), (117, (false, 1)), (118, (false, 1)), (119, (false, 1)), (120, (false, 1)), (121, (true, 11)), (122, (true, 11))]
theorem shL_ok : AllT (fun t r => shapeIs Tryd.prog t r.1 r.2) shL := by
  refine And.intro (shape_one Tryd.underlying1 trivial (sz_of rfl)) ?_
  refine And.intro (shape_one Tryd.underlying2 trivial (sz_of rfl)) ?_
  refine And.intro (shape_one Tryd.underlying3 trivial (sz_of rfl)) ?_
  refine And.intro (shape_one Tryd.underlying4 trivial (sz_of rfl)) ?_
  refine And.intro (shape_one Tryd.underlying5 trivial (sz_of rfl)) ?_
  refine And.intro (shape_one Tryd.underlying6 trivial (sz_of rfl)) ?_
  refine And.intro (⟨ii_of (t := 7) rfl, fun w => by simp [isAgg, run_underlying Tryd.underlying7], fun h => by cases h⟩) ?_
  refine And.intro (⟨ii_of (t := 8) rfl, fun w => by simp [isAgg, run_underlying Tryd.underlying8], fun h => by cases h⟩) ?_
  refine And.intro (shape_one Tryd.underlying9 trivial (sz_of rfl)) ?_
  refine And.intro (shape_one Tryd.underlying10 trivial (sz_of rfl)) ?_
  refine And.intro (shape_one Tryd.underlying11 trivial (sz_of rfl)) ?_
  refine And.intro (shape_one Tryd.underlying12 trivial (sz_of rfl)) ?_
  refine And.intro (⟨ii_of (t := 13) rfl, fun w => by simp [isAgg, run_underlying Tryd.underlying13], fun h => by cases h⟩) ?_
  refine And.intro (⟨ii_of (t := 14) rfl, fun w => by simp [isAgg, run_underlying Tryd.underlying14], fun h => by cases h⟩) ?_
  refine And.intro (shape_one Tryd.underlying15 trivial (sz_of rfl)) ?_
  refine And.intro (shape_one Tryd.underlying16 trivial (sz_of rfl)) ?_
  refine And.intro (shape_one Tryd.underlying17 trivial (sz_of rfl)) ?_
  refine And.intro (⟨ii_of (t := 18) rfl, fun w => by simp [isAgg, run_underlying Tryd.underlying18], fun h => by cases h⟩) ?_
  refine And.intro (⟨ii_of (t := 19) rfl, fun w => by simp [isAgg, run_underlying Tryd.underlying19], fun h => by cases h⟩) ?_
  refine And.intro (shape_one Tryd.underlying20 trivial (sz_of rfl)) ?_
  refine And.intro (shape_one Tryd.underlying21 trivial (sz_of rfl)) ?_
  refine And.intro (shape_one Tryd.underlying22 trivial (sz_of rfl)) ?_
  refine And.intro (shape_one Tryd.underlying23 trivial (sz_of rfl)) ?_
  refine And.intro (shape_one Tryd.underlying24 trivial (sz_of rfl)) ?_
  refine And.intro (shape_one Tryd.underlying25 trivial (sz_of rfl)) ?_
  refine And.intro (shape_one Tryd.underlying26 trivial (sz_of rfl)) ?_
  refine And.intro (shape_one Tryd.underlying27 trivial (sz_of rfl)) ?_
  refine And.intro (⟨ii_of (t := 28) rfl, fun w => by simp [isAgg, run_underlying Tryd.underlying28], fun h => by cases h⟩) ?_
  refine And.intro (⟨ii_of (t := 29) rfl, fun w => by simp [isAgg, run_underlying Tryd.underlying29], fun h => by cases h⟩) ?_
  refine And.intro (shape_one Tryd.underlying31 trivial (sz_of rfl)) ?_
  refine And.intro (shape_one Tryd.underlying32 trivial (sz_of rfl)) ?_
  refine And.intro (shape_one Tryd.underlying33 trivial (sz_of rfl)) ?_
  refine And.intro (shape_one Tryd.underlying34 trivial (sz_of rfl)) ?_
  refine And.intro (shape_one Tryd.underlying35 trivial (sz_of rfl)) ?_
  refine And.intro (shape_one Tryd.underlying36 trivial (sz_of rfl)) ?_
  refine And.intro (shape_one Tryd.underlying37 trivial (sz_of rfl)) ?_
  refine And.intro (shape_one Tryd.underlying38 trivial (sz_of rfl)) ?_
  refine And.intro (shape_one Tryd.underlying39 trivial (sz_of rfl)) ?_
  refine And.intro (shape_one Tryd.underlying40 trivial (sz_of rfl)) ?_
  refine And.intro (shape_one Tryd.underlying41 trivial (sz_of rfl)) ?_
  refine And.intro (shape_one Tryd.underlying42 trivial (sz_of rfl)) ?_
  refine And.intro (shape_one Tryd.underlying43 trivial (sz_of rfl)) ?_
  refine And.intro (shape_one Tryd.underlying44 trivial (sz_of rfl)) ?_
  refine And.intro (shape_one Tryd.underlying45 trivial (sz_of rfl)) ?_
  refine And.intro (shape_one Tryd.underlying46 trivial (sz_of rfl)) ?_
  refine And.intro (shape_one Tryd.underlying47 trivial (sz_of rfl)) ?_
  refine And.intro (⟨ii_of (t := 48) rfl, fun w => by simp [isAgg, run_underlying Tryd.underlying48], fun h => by cases h⟩) ?_
  refine And.intro (⟨ii_of (t := 49) rfl, fun w => by simp [isAgg, run_underlying Tryd.underlying49], fun h => by cases h⟩) ?_
  refine And.intro (shape_one Tryd.underlying50 trivial (sz_of rfl)) ?_
  refine And.intro (shape_one Tryd.underlying51 trivial (sz_of rfl)) ?_
  refine And.intro (⟨ii_of (t := 52) rfl, fun w => by simp [isAgg, run_underlying Tryd.underlying52], fun h => by cases h⟩) ?_
  refine And.intro (⟨ii_of (t := 53) rfl, fun w => by simp [isAgg, run_underlying Tryd.underlying53], fun h => by cases h⟩) ?_
  refine And.intro (shape_one Tryd.underlying54 trivial (sz_of rfl)) ?_
  refine And.intro (shape_one Tryd.underlying55 trivial (sz_of rfl)) ?_
  refine And.intro (shape_one Tryd.underlying56 trivial (sz_of rfl)) ?_
  refine And.intro (shape_one Tryd.underlying57 trivial (sz_of rfl)) ?_
  refine And.intro (⟨ii_of (t := 58) rfl, fun w => by simp [isAgg, run_underlying Tryd.underlying58], fun h => by cases h⟩) ?_
  refine And.intro (⟨ii_of (t := 59) rfl, fun w => by simp [isAgg, run_underlying Tryd.underlying59], fun h => by cases h⟩) ?_
  refine And.intro (shape_one Tryd.underlying60 trivial (sz_of rfl)) ?_
  refine And.intro (shape_one Tryd.underlying61 trivial (sz_of rfl)) ?_
  refine And.intro (shape_one Tryd.underlying62 trivial (sz_of rfl)) ?_
  refine And.intro (shape_one Tryd.underlying63 trivial (sz_of rfl)) ?_
  refine And.intro (shape_one Tryd.underlying64 trivial (sz_of rfl)) ?_
  refine And.intro (shape_one Tryd.underlying66 trivial (sz_of rfl)) ?_
  refine And.intro (shape_one Tryd.underlying67 trivial (sz_of rfl)) ?_
  refine And.intro (shape_one Tryd.underlying68 trivial (sz_of rfl)) ?_
  refine And.intro (shape_one Tryd.underlying69 trivial (sz_of rfl)) ?_
  refine And.intro (shape_one Tryd.underlying70 trivial (sz_of rfl)) ?_
  refine And.intro (shape_one Tryd.underlying71 trivial (sz_of rfl)) ?_
  refine And.intro (shape_one Tryd.underlying73 trivial (sz_of rfl)) ?_
  refine And.intro (shape_one Tryd.underlying74 trivial (sz_of rfl)) ?_
  refine And.intro (shape_one Tryd.underlying75 trivial (sz_of rfl)) ?_
  refine And.intro (shape_one Tryd.underlying76 trivial (sz_of rfl)) ?_
  refine And.intro (shape_one Tryd.underlying77 trivial (sz_of rfl)) ?_
  refine And.intro (shape_one Tryd.underlying78 trivial (sz_of rfl)) ?_
  refine And.intro (shape_one Tryd.underlying79 trivial (sz_of rfl)) ?_
  refine And.intro (shape_one Tryd.underlying80 trivial (sz_of rfl)) ?_
  refine And.intro (shape_one Tryd.underlying81 trivial (sz_of rfl)) ?_
  refine And.intro (shape_one Tryd.underlying82 trivial (sz_of rfl)) ?_
  refine And.intro (shape_one Tryd.underlying83 trivial (sz_of rfl)) ?_
  refine And.intro (shape_one Tryd.underlying84 trivial (sz_of rfl)) ?_
  refine And.intro (shape_one Tryd.underlying85 trivial (sz_of rfl)) ?_
  refine And.intro (shape_one Tryd.underlying86 trivial (sz_of rfl)) ?_
  refine And.intro (shape_one Tryd.underlying87 trivial (sz_of rfl)) ?_
  refine And.intro (shape_one Tryd.underlying88 trivial (sz_of rfl)) ?_
  refine And.intro (shape_one Tryd.underlying89 trivial (sz_of rfl)) ?_
  refine And.intro (shape_one Tryd.underlying90 trivial (sz_of rfl)) ?_
  refine And.intro (shape_one Tryd.underlying91 trivial (sz_of rfl)) ?_
  refine And.intro (shape_one Tryd.underlying92 trivial (sz_of rfl)) ?_
  refine And.intro (shape_one Tryd.underlying94 trivial (sz_of rfl)) ?_
  refine And.intro (shape_one Tryd.underlying95 trivial (sz_of rfl)) ?_
  refine And.intro (shape_one Tryd.underlying96 trivial (sz_of rfl)) ?_
  refine And.intro (shape_one Tryd.underlying97 trivial (sz_of rfl)) ?_
  refine And.intro (⟨ii_of (t := 98) rfl, fun w => by simp [isAgg, run_underlying Tryd.underlying98], fun h => by cases h⟩) ?_
  refine And.intro (⟨ii_of (t := 99) rfl, fun w => by simp [isAgg, run_underlying Tryd.underlying99], fun h => by cases h⟩) ?_
  refine And.intro (shape_one Tryd.underlying100 trivial (sz_of rfl)) ?_
  refine And.intro (shape_one Tryd.underlying101 trivial (sz_of rfl)) ?_
  refine And.intro (shape_one Tryd.underlying102 trivial (sz_of rfl)) ?_
  refine And.intro (shape_one Tryd.underlying103 trivial (sz_of rfl)) ?_
  refine And.intro (shape_one Tryd.underlying104 trivial (sz_of rfl)) ?_
  refine And.intro (shape_one Tryd.underlying105 trivial (sz_of rfl)) ?_
  refine And.intro (shape_one Tryd.underlying106 trivial (sz_of rfl)) ?_
  refine And.intro (shape_one Tryd.underlying108 trivial (sz_of rfl)) ?_
  refine And.intro (shape_one Tryd.underlying109 trivial (sz_of rfl)) ?_
  refine And.intro (⟨ii_of (t := 110) rfl, fun w => by simp [isAgg, run_underlying Tryd.underlying110], fun h => by cases h⟩) ?_
  refine And.intro (⟨ii_of (t := 111) rfl, fun w => by simp [isAgg, run_underlying Tryd.underlying111], fun h => by cases h⟩) ?_
  refine And.intro (shape_one Tryd.underlying115 trivial (sz_of rfl)) ?_
  refine And.intro (shape_one Tryd.underlying116 trivial (sz_of rfl)) ?_
  refine And.intro (shape_one Tryd.underlying117 trivial (sz_of rfl)) ?_
  refine And.intro (shape_one Tryd.underlying118 trivial (sz_of rfl)) ?_
  refine And.intro (shape_one Tryd.underlying119 trivial (sz_of rfl)) ?_
  refine And.intro (shape_one Tryd.underlying120 trivial (sz_of rfl)) ?_
  refine And.intro (⟨ii_of (t := 121) rfl, fun w => by simp [isAgg, run_underlying Tryd.underlying121], fun h => by cases h⟩) ?_
  refine And.intro (⟨ii_of (t := 122) rfl, fun w => by simp [isAgg, run_underlying Tryd.underlying122], fun h => by cases h⟩) ?_
  exact trivial
theorem sh_of {t k : Nat} {b : Bool} (h : lkT shL t = some (b, k)) : shapeIs Tryd.prog t b k := shL_ok.get h
noncomputable def stL : List (Nat × (List (Nat × Nat))) := [(7, [(0, 1), (1, 1), (2, 1), (3, 1)]), (8, [(0, 1), (1, 1), (2, 1), (3, 1)]), (13, [(0, 1), (1, 1)]), (14, [(0, 1), (1, 1)]), (18, [(0, 1)]), (19, [(0, 1)]), (28, [(0, 1), (1, 1), (2, 1)]), (29, [(0, 1), (1, 1), (2, 1)]), (48, [(0, 1), (1, 1), (2, 3)]), (49, [(0, 1), (1, 1), (2, 3)]), (52, [(0, 1), (1, 1), (2, 1)]), (53, [(0, 1), (1, 1), (2, 1)]), (58, [(0, 1), (1, 1), (2, 1)]), (59, [(0, 1), (1, 1), (2, 1)]), (110, [(0, 1), (1, 1), (2, 1), (3, 1)]), (111, [(0, 1), (1, 1), (2, 1), (3, 1)]), (121, [(0, 1), (1, 1), (2, 1), (3, 1), (4, 1), (5, 1), (6, 1), (7, 1), (8, 1), (9, 1), (10, 1)]), (122, [(0, 1), (1, 1), (2, 1), (3, 1), (4, 1), (5, 1), (6, 1), (7, 1), (8, 1), (9, 1), (10, 1)])]
theorem stL_ok : AllT (fun t r => structIs Tryd.prog t r) stL := by
  refine And.intro (⟨_, Tryd.underlying7, by kernel_rfl, by kernel_rfl⟩) ?_
  refine And.intro (⟨_, Tryd.underlying8, by kernel_rfl, by kernel_rfl⟩) ?_
  refine And.intro (⟨_, Tryd.underlying13, by kernel_rfl, by kernel_rfl⟩) ?_
  refine And.intro (⟨_, Tryd.underlying14, by kernel_rfl, by kernel_rfl⟩) ?_
  refine And.intro (⟨_, Tryd.underlying18, by kernel_rfl, by kernel_rfl⟩) ?_
  refine And.intro (⟨_, Tryd.underlying19, by kernel_rfl, by kernel_rfl⟩) ?_
  refine And.intro (⟨_, Tryd.underlying28, by kernel_rfl, by kernel_rfl⟩) ?_
  refine And.intro (⟨_, Tryd.underlying29, by kernel_rfl, by kernel_rfl⟩) ?_
  refine And.intro (⟨_, Tryd.underlying48, by kernel_rfl, by kernel_rfl⟩) ?_
  refine And.intro (⟨_, Tryd.underlying49, by kernel_rfl, by kernel_rfl⟩) ?_
  refine And.intro (⟨_, Tryd.underlying52, by kernel_rfl, by kernel_rfl⟩) ?_
  refine And.intro (⟨_, Tryd.underlying53, by kernel_rfl, by kernel_rfl⟩) ?_
  refine And.intro (⟨_, Tryd.underlying58, by kernel_rfl, by kernel_rfl⟩) ?_
  refine And.intro (⟨_, Tryd.underlying59, by kernel_rfl, by kernel_rfl⟩) ?_
  refine And.intro (⟨_, Tryd.underlying110, by kernel_rfl, by kernel_rfl⟩) ?_
  refine And.intro (⟨_, Tryd.underlying111, by kernel_rfl, by kernel_rfl⟩) ?_
  refine And.intro (⟨_, Tryd.underlying121, by kernel_rfl, by kernel_rfl⟩) ?_
  refine And.intro (⟨_, Tryd.underlying122, by kernel_rfl, by kernel_rfl⟩) ?_
  exact trivial
theorem st_of {t : Nat} {pl : List (Nat × Nat)} (h : lkT stL t = some pl) : structIs Tryd.prog t pl := stL_ok.get h
noncomputable def flL : List (Nat × Nat × Nat) := [(7, 0, 0), (7, 1, 1), (7, 2, 2), (7, 3, 3), (8, 0, 0), (8, 1, 1), (8, 2, 2), (8, 3, 3), (13, 0, 0), (13, 1, 1), (14, 0, 0), (14, 1, 1), (18, 0, 0), (19, 0, 0), (28, 0, 0), (28, 1, 1), (28, 2, 2), (29, 0, 0), (29, 1, 1), (29, 2, 2), (48, 0, 0), (48, 1, 1), (48, 2, 2), (49, 0, 0), (49, 1, 1), (49, 2, 2), (52, 0, 0), (52, 1, 1), (52, 2, 2), (53, 0, 0), (53, 1, 1), (53, 2, 2), (58, 0, 0), (58, 1, 1), (58, 2, 2), (59, 0, 0), (59, 1, 1), (59, 2, 2), (110, 0, 0), (110, 1, 1), (110, 2, 2), (110, 3, 3), (111, 0, 0), (111, 1, 1), (111, 2, 2), (111, 3, 3), (121, 0, 0), (121, 1, 1), (121, 2, 2), (121, 3, 3), (121, 4, 4), (121, 5, 5), (121, 6, 6), (121, 7, 7), (121, 8, 8), (121, 9, 9), (121, 10, 10), (122, 0, 0), (122, 1, 1), (122, 2, 2), (122, 3, 3), (122, 4, 4), (122, 5, 5), (122, 6, 6), (122, 7, 7), (122, 8, 8), (122, 9, 9), (122, 10, 10)]
theorem flL_ok : AllF (fieldIs Tryd.prog) flL := by
  refine And.intro (fld_mk (ft := 0) Tryd.underlying7 rfl rfl (inf_of rfl) (by decide)) ?_
  refine And.intro (fld_mk (ft := 0) Tryd.underlying7 rfl rfl (inf_of rfl) (by decide)) ?_
  refine And.intro (fld_mk (ft := 0) Tryd.underlying7 rfl rfl (inf_of rfl) (by decide)) ?_
  refine And.intro (fld_mk (ft := 0) Tryd.underlying7 rfl rfl (inf_of rfl) (by decide)) ?_
  refine And.intro (fld_mk (ft := 0) Tryd.underlying8 rfl rfl (inf_of rfl) (by decide)) ?_
  refine And.intro (fld_mk (ft := 0) Tryd.underlying8 rfl rfl (inf_of rfl) (by decide)) ?_
  refine And.intro (fld_mk (ft := 0) Tryd.underlying8 rfl rfl (inf_of rfl) (by decide)) ?_
  refine And.intro (fld_mk (ft := 0) Tryd.underlying8 rfl rfl (inf_of rfl) (by decide)) ?_
  refine And.intro (fld_mk (ft := 0) Tryd.underlying13 rfl rfl (inf_of rfl) (by decide)) ?_
  refine And.intro (fld_mk (ft := 0) Tryd.underlying13 rfl rfl (inf_of rfl) (by decide)) ?_
  refine And.intro (fld_mk (ft := 0) Tryd.underlying14 rfl rfl (inf_of rfl) (by decide)) ?_
  refine And.intro (fld_mk (ft := 0) Tryd.underlying14 rfl rfl (inf_of rfl) (by decide)) ?_
  refine And.intro (fld_mk (ft := 0) Tryd.underlying18 rfl rfl (inf_of rfl) (by decide)) ?_
  refine And.intro (fld_mk (ft := 0) Tryd.underlying19 rfl rfl (inf_of rfl) (by decide)) ?_
  refine And.intro (fld_mk (ft := 0) Tryd.underlying28 rfl rfl (inf_of rfl) (by decide)) ?_
  refine And.intro (fld_mk (ft := 0) Tryd.underlying28 rfl rfl (inf_of rfl) (by decide)) ?_
  refine And.intro (fld_mk (ft := 0) Tryd.underlying28 rfl rfl (inf_of rfl) (by decide)) ?_
  refine And.intro (fld_mk (ft := 0) Tryd.underlying29 rfl rfl (inf_of rfl) (by decide)) ?_
  refine And.intro (fld_mk (ft := 0) Tryd.underlying29 rfl rfl (inf_of rfl) (by decide)) ?_
  refine And.intro (fld_mk (ft := 0) Tryd.underlying29 rfl rfl (inf_of rfl) (by decide)) ?_
  refine And.intro (fld_mk (ft := 0) Tryd.underlying48 rfl rfl (inf_of rfl) (by decide)) ?_
  refine And.intro (fld_mk (ft := 0) Tryd.underlying48 rfl rfl (inf_of rfl) (by decide)) ?_
  refine And.intro (fld_mk (ft := 0) Tryd.underlying48 rfl rfl (inf_of rfl) (by decide)) ?_
  refine And.intro (fld_mk (ft := 0) Tryd.underlying49 rfl rfl (inf_of rfl) (by decide)) ?_
  refine And.intro (fld_mk (ft := 0) Tryd.underlying49 rfl rfl (inf_of rfl) (by decide)) ?_
  refine And.intro (fld_mk (ft := 0) Tryd.underlying49 rfl rfl (inf_of rfl) (by decide)) ?_
  refine And.intro (fld_mk (ft := 0) Tryd.underlying52 rfl rfl (inf_of rfl) (by decide)) ?_
  refine And.intro (fld_mk (ft := 0) Tryd.underlying52 rfl rfl (inf_of rfl) (by decide)) ?_
  refine And.intro (fld_mk (ft := 0) Tryd.underlying52 rfl rfl (inf_of rfl) (by decide)) ?_
  refine And.intro (fld_mk (ft := 0) Tryd.underlying53 rfl rfl (inf_of rfl) (by decide)) ?_
  refine And.intro (fld_mk (ft := 0) Tryd.underlying53 rfl rfl (inf_of rfl) (by decide)) ?_
  refine And.intro (fld_mk (ft := 0) Tryd.underlying53 rfl rfl (inf_of rfl) (by decide)) ?_
  refine And.intro (fld_mk (ft := 0) Tryd.underlying58 rfl rfl (inf_of rfl) (by decide)) ?_
  refine And.intro (fld_mk (ft := 0) Tryd.underlying58 rfl rfl (inf_of rfl) (by decide)) ?_
  refine And.intro (fld_mk (ft := 0) Tryd.underlying58 rfl rfl (inf_of rfl) (by decide)) ?_
  refine And.intro (fld_mk (ft := 0) Tryd.underlying59 rfl rfl (inf_of rfl) (by decide)) ?_
  refine And.intro (fld_mk (ft := 0) Tryd.underlying59 rfl rfl (inf_of rfl) (by decide)) ?_
  refine And.intro (fld_mk (ft := 0) Tryd.underlying59 rfl rfl (inf_of rfl) (by decide)) ?_
  refine And.intro (fld_mk (ft := 0) Tryd.underlying110 rfl rfl (inf_of rfl) (by decide)) ?_
  refine And.intro (fld_mk (ft := 0) Tryd.underlying110 rfl rfl (inf_of rfl) (by decide)) ?_
  refine And.intro (fld_mk (ft := 0) Tryd.underlying110 rfl rfl (inf_of rfl) (by decide)) ?_
  refine And.intro (fld_mk (ft := 0) Tryd.underlying110 rfl rfl (inf_of rfl) (by decide)) ?_
  refine And.intro (fld_mk (ft := 0) Tryd.underlying111 rfl rfl (inf_of rfl) (by decide)) ?_
  refine And.intro (fld_mk (ft := 0) Tryd.underlying111 rfl rfl (inf_of rfl) (by decide)) ?_
  refine And.intro (fld_mk (ft := 0) Tryd.underlying111 rfl rfl (inf_of rfl) (by decide)) ?_
  refine And.intro (fld_mk (ft := 0) Tryd.underlying111 rfl rfl (inf_of rfl) (by decide)) ?_
  refine And.intro (fld_mk (ft := 0) Tryd.underlying121 rfl rfl (inf_of rfl) (by decide)) ?_
  refine And.intro (fld_mk (ft := 0) Tryd.underlying121 rfl rfl (inf_of rfl) (by decide)) ?_
  refine And.intro (fld_mk (ft := 0) Tryd.underlying121 rfl rfl (inf_of rfl) (by decide)) ?_
  refine And.intro (fld_mk (ft := 0) Tryd.underlying121 rfl rfl (inf_of rfl) (by decide)) ?_
  refine And.intro (fld_mk (ft := 0) Tryd.underlying121 rfl rfl (inf_of rfl) (by decide)) ?_
  refine And.intro (fld_mk (ft := 0) Tryd.underlying121 rfl rfl (inf_of rfl) (by decide)) ?_
  refine And.intro (fld_mk (ft := 0) Tryd.underlying121 rfl rfl (inf_of rfl) (by decide)) ?_
  refine And.intro (fld_mk (ft := 0) Tryd.underlying121 rfl rfl (inf_of rfl) (by decide)) ?_
  refine And.intro (fld_mk (ft := 0) Tryd.underlying121 rfl rfl (inf_of rfl) (by decide)) ?_
  refine And.intro (fld_mk (ft := 0) Tryd.underlying121 rfl rfl (inf_of rfl) (by decide)) ?_
  refine And.intro (fld_mk (ft := 0) Tryd.underlying121 rfl rfl (inf_of rfl) (by decide)) ?_
  refine And.intro (fld_mk (ft := 0) Tryd.underlying122 rfl rfl (inf_of rfl) (by decide)) ?_
  refine And.intro (fld_mk (ft := 0) Tryd.underlying122 rfl rfl (inf_of rfl) (by decide)) ?_
  refine And.intro (fld_mk (ft := 0) Tryd.underlying122 rfl rfl (inf_of rfl) (by decide)) ?_
  refine And.intro (fld_mk (ft := 0) Tryd.underlying122 rfl rfl (inf_of rfl) (by decide)) ?_
  refine And.intro (fld_mk (ft := 0) Tryd.underlying122 rfl rfl (inf_of rfl) (by decide)) ?_
  refine And.intro (fld_mk (ft := 0) Tryd.underlying122 rfl rfl (inf_of rfl) (by decide)) ?_
  refine And.intro (fld_mk (ft := 0) Tryd.underlying122 rfl rfl (inf_of rfl) (by decide)) ?_
  refine And.intro (fld_mk (ft := 0) Tryd.underlying122 rfl rfl (inf_of rfl) (by decide)) ?_
  refine And.intro (fld_mk (ft := 0) Tryd.underlying122 rfl rfl (inf_of rfl) (by decide)) ?_
  refine And.intro (fld_mk (ft := 0) Tryd.underlying122 rfl rfl (inf_of rfl) (by decide)) ?_
  refine And.intro (fld_mk (ft := 0) Tryd.underlying122 rfl rfl (inf_of rfl) (by decide)) ?_
  exact trivial
theorem fld_of {t f off : Nat} (h : lkF flL t f = some off) : fieldIs Tryd.prog t f off := flL_ok.get h
noncomputable def ptL : List (Nat × Unit) := [(15, ()), (16, ()), (17, ()), (23, ()), (46, ()), (104, ()), (106, ()), (118, ())]
theorem ptL_ok : AllT (fun t r => Tryd.prog.underlying t = some (.pointer (Tryd.prog.pointee t))) ptL := by
  refine And.intro ((show Tryd.prog.underlying 15 = some (.pointer (Tryd.prog.pointee 15)) from by kernel_rfl)) ?_
  refine And.intro ((show Tryd.prog.underlying 16 = some (.pointer (Tryd.prog.pointee 16)) from by kernel_rfl)) ?_
  refine And.intro ((show Tryd.prog.underlying 17 = some (.pointer (Tryd.prog.pointee 17)) from by kernel_rfl)) ?_
  refine And.intro ((show Tryd.prog.underlying 23 = some (.pointer (Tryd.prog.pointee 23)) from by kernel_rfl)) ?_
  refine And.intro ((show Tryd.prog.underlying 46 = some (.pointer (Tryd.prog.pointee 46)) from by kernel_rfl)) ?_
  refine And.intro ((show Tryd.prog.underlying 104 = some (.pointer (Tryd.prog.pointee 104)) from by kernel_rfl)) ?_
  refine And.intro ((show Tryd.prog.underlying 106 = some (.pointer (Tryd.prog.pointee 106)) from by kernel_rfl)) ?_
  refine And.intro ((show Tryd.prog.underlying 118 = some (.pointer (Tryd.prog.pointee 118)) from by kernel_rfl)) ?_
  exact trivial
theorem un_ptr {t : Nat} (h : lkT ptL t = some ()) : Tryd.prog.underlying t = some (.pointer (Tryd.prog.pointee t)) := ptL_ok.get h
end Go.Proofs.ZtLe
namespace Go.Proofs.ZtLe
open Go.RowKit Go.Proofs Go.Proofs.Zm
set_option linter.unusedVariables false
set_option linter.unusedSimpArgs false
set_option maxHeartbeats 20000000
set_option maxRecDepth 100000
attribute [local irreducible] ZWp ZOps ZPure ZPure0 ZVal ZOp SoundF

/-! ### plain -/
/-- The lowest bytes of a number, the least first. -/
def put (n : Int) : Nat → List UInt8
  | 0 => []
  | k + 1 => put n k ++ [UInt8.ofNat (n / 256 ^ k % 256).toNat]
theorem put_length (n : Int) (k : Nat) : (put n k).length = k := by induction k <;> simp_all [put]
def putB (n : Int) (k : Int) : List UInt8 := if 0 ≤ k ∧ k ≤ 8 then put n k.toNat else []
/-- The number of bytes, the least first. -/
def num : List UInt8 → Int
  | [] => 0
  | b :: l => (b.toNat : Int) + 256 * num l
theorem num_nonneg (l : List UInt8) : 0 ≤ num l := by induction l with
  | nil => simp [num]
  | cons b l ih => simp only [num]; omega
def get (l : List UInt8) : Int := num (l.take 8)

/-! ### types -/
theorem el5 : ElemOk Tryd.prog 5 1 1 [.v (.int .u8 0)] := by
  refine ⟨?_, by decide, by decide⟩
  have h : (Tryd.prog.info? 5).map (fun i => (i.size, i.bytes, i.zero)) = some (1, 1, some (.int .u8 0)) := by kernel_rfl
  obtain ⟨i, hi, he⟩ := Option.map_eq_some_iff.1 h
  simp only [Prod.mk.injEq] at he
  exact ⟨i, .int .u8 0, hi, he.1, he.2.1, he.2.2, rfl, rfl⟩
theorem sz5 : (Tryd.prog.info? 5).map (·.size) = some 1 := by kernel_rfl
theorem byte1 (n : Int) : ([[.v (.int .u8 (n % 256))]] : List (List D)) = bytesD [UInt8.ofNat (n % 256).toNat] := by
  simp only [bytesD, List.map_cons, List.map_nil]
  have : ((UInt8.ofNat (n % 256).toNat).toNat : Int) = n % 256 := by simp; omega
  rw [this]
theorem zeros (k : Nat) : List.replicate k ([.v (.int .u8 0)] : List D) = bytesD (List.replicate k 0) := by simp [bytesD]

/-! ### le.Put -/
def putSpec : ZSpec := fun args st K => ∃ (n : Int) (k : Int), args = [.v (.int .u64 n), .v (.int .i64 k)] ∧ 0 ≤ n ∧ n < 18446744073709551616 ∧
  ∀ t, st.T t = false → t ≠ 0 → K (.row (bytesD (putB n k)) 1 t) (st.setT t true)

theorem put_snd : SoundF Tryd.prog 29 putSpec := by
  refine sound_of Tryd.func29 rfl Tryd.results29 ?_
  rintro w0 args st K ⟨n, k, rfl, h0, h1, hK⟩
  rw [Tryd.ntmps29]; refine ⟨by simp, ?_⟩
  unfold putB at hK
  (repeat (first | ((with_reducible apply zr_seq)) | ((with_reducible apply zr_region); (try simp only [List.append_eq, List.cons_append, List.nil_append])) | ((with_reducible apply zo_end)) | ((with_reducible apply zs_move); (exact rfl); (exact rfl)) | ((with_reducible apply zs_assign); (exact rfl); (exact rfl)) | ((with_reducible apply zs_lss); (exact rfl); (exact rfl); (exact rfl))))
  by_cases hk : k < 0
  · have g1 : decide (k < 0) = true := decide_eq_true hk
    (repeat (first | ((with_reducible apply zr_seq)) | ((with_reducible apply zr_region); (try simp only [List.append_eq, List.cons_append, List.nil_append])) | ((with_reducible apply zo_end)) | ((with_reducible apply zs_noU); (exact rfl); (exact rfl); (first | assumption | exact rfl | (simp only [Bool.not_false, Bool.not_true]; assumption)); (exact rfl)) | ((with_reducible apply zs_assign); (exact rfl); (exact rfl)) | ((with_reducible apply zs_pick_t); (exact rfl); (exact rfl); (first | assumption | exact rfl); (exact rfl)) | ((with_reducible apply zr_cond_t); (exact rfl); (first | assumption | exact rfl))))
    refine zr_nil 4 1 rfl fun t ht ht0 => ?_
    refine zr_retZ rfl (resD_tmp rfl (resD_nil _ _ _)) ?_
    have := hK t ht ht0
    rw [if_neg (by omega)] at this
    exact this
  · have g1 : decide (k < 0) = false := decide_eq_false hk
    (repeat (first | ((with_reducible apply zo_end)) | ((with_reducible apply zs_yes); (exact rfl); (exact rfl); (first | assumption | exact rfl)) | ((with_reducible apply zs_move); (exact rfl); (exact rfl)) | ((with_reducible apply zs_gtr); (exact rfl); (exact rfl); (exact rfl)) | ((with_reducible apply zs_pick_f); (exact rfl); (exact rfl); (first | assumption | exact rfl); (exact rfl))))
    by_cases hk8 : 8 < k
    · have g3 : decide (8 < k) = true := decide_eq_true hk8
      (repeat (first | ((with_reducible apply zr_seq)) | ((with_reducible apply zr_region); (try simp only [List.append_eq, List.cons_append, List.nil_append])) | ((with_reducible apply zo_end)) | ((with_reducible apply zs_assign); (exact rfl); (exact rfl)) | ((with_reducible apply zr_cond_t); (exact rfl); (first | assumption | exact rfl))))
      refine zr_nil 4 1 rfl fun t ht ht0 => ?_
      refine zr_retZ rfl (resD_tmp rfl (resD_nil _ _ _)) ?_
      have := hK t ht ht0
      rw [if_neg (by omega)] at this
      exact this
    · have g3 : decide (8 < k) = false := decide_eq_false hk8
      (repeat (first | ((with_reducible apply zr_seq)) | ((with_reducible apply zr_region); (try simp only [List.append_eq, List.cons_append, List.nil_append])) | ((with_reducible apply zo_end)) | ((with_reducible apply zs_move); (exact rfl); (exact rfl)) | ((with_reducible apply zs_assign); (exact rfl); (exact rfl)) | ((with_reducible apply zr_cond_f); (exact rfl); (first | assumption | exact rfl)) | ((with_reducible apply zr_block)) | ((with_reducible apply zr_skip'))))
      refine zr_nil 5 1 rfl fun t ht ht0 => ?_
      refine zr_loopE (fun m env s => ∃ (i : Nat) (t' : Nat), m + i = k.toNat ∧ env = [(0, .v (.int .u64 (n / 256 ^ i))), (5, .row (bytesD (put n i)) 1 t'), (12, .v (.int .i64 k)), (13, .v (.int .i64 (i : Nat)))] ∧ s = st.setT t' true ∧ st.T t' = false ∧ t' ≠ 0) k.toNat [(0, .v (.int .u64 (n / 256 ^ 0))), (5, .row (bytesD (put n 0)) 1 t), (12, .v (.int .i64 k)), (13, .v (.int .i64 (0 : Nat)))] zq10 ⟨0, t, rfl, rfl, rfl, ht, ht0⟩ ?_
      rintro m env s ⟨i, t', hm, rfl, rfl, ht', ht0'⟩
      (repeat (first | ((with_reducible apply zr_seq)) | ((with_reducible apply zr_region); (try simp only [List.append_eq, List.cons_append, List.nil_append])) | ((with_reducible apply zo_end)) | ((with_reducible apply zs_lss); (exact rfl); (exact rfl); (exact rfl))))
      by_cases hlt : (i : Int) < k
      · have g4 : decide ((i : Int) < k) = true := decide_eq_true hlt
        (repeat (first | ((with_reducible apply zr_seq)) | ((with_reducible apply zr_region); (try simp only [List.append_eq, List.cons_append, List.nil_append])) | ((with_reducible apply zs_move); (exact rfl); (exact rfl)) | ((with_reducible apply zr_cond_t); (exact rfl); (first | assumption | exact rfl)) | ((with_reducible apply zr_block)) | ((with_reducible apply zr_skip'))))
        (try ((with_reducible apply zs_yes); exact rfl; exact rfl; (first | assumption | exact rfl))); refine zo_pure0 rfl rfl (by decide) (zp_conv rfl rfl (by exact un_int rfl) (by exact un_int rfl) (wrap_u8 _)) ?_
        (try ((with_reducible apply zs_yes); exact rfl; exact rfl; (first | assumption | exact rfl))); refine zo_val rfl rfl (by decide) (zv_lit (xs := [.tmp 17]) rfl rfl el5 zq16 rfl (by simp [cellsD, oneD, Value.oneCell']) (by decide) ?_)
        (try ((with_reducible apply zs_yes); exact rfl; exact rfl; (first | assumption | exact rfl))); refine zo_val rfl rfl (by decide) (zv_append rfl el5 zq16 rfl (by simp) rfl (by simp [put_length]; omega) fun t2 h2 h20 => ?_)
        rw [St.setT_back ht']
        (repeat (first | ((with_reducible apply zr_region); (try simp only [List.append_eq, List.cons_append, List.nil_append])) | ((with_reducible apply zo_end)) | ((with_reducible apply zs_move); (exact rfl); (exact rfl)) | ((with_reducible apply zs_assign); (exact rfl); (exact rfl))))
        have e1 : (n / 256 ^ i).fdiv (2 ^ min (Int.toNat 8) IntKind.u64.bits) = n / 256 ^ (i + 1) := by
          have : min (Int.toNat 8) IntKind.u64.bits = 8 := by decide
          rw [this, Int.fdiv_eq_ediv_of_nonneg _ (by decide), show (2 : Int) ^ 8 = 256 from rfl, Int.pow_succ, Int.ediv_ediv_of_nonneg (Int.pow_nonneg (by decide))]
        (try ((with_reducible apply zs_yes); exact rfl; exact rfl; (first | assumption | exact rfl))); refine zo_pure0 rfl rfl (by decide) (zp_shr rfl rfl rfl (by omega) e1) ?_
        (repeat (first | ((with_reducible apply zr_region); (try simp only [List.append_eq, List.cons_append, List.nil_append])) | ((with_reducible apply zo_end)) | ((with_reducible apply zo_endB)) | ((with_reducible apply zs_move); (exact rfl); (exact rfl)) | ((with_reducible apply zs_assign); (exact rfl); (exact rfl)) | ((with_reducible apply zs_add); (exact rfl); (exact rfl); (exact rfl); (first | (with_reducible assumption) | exact wrap_in64 (by omega) (by omega)))))
        have ht2 : st.T t2 = false := by
          by_cases h : t2 = t'
          · simp [h] at h2
          · simpa [h] using h2
        refine ⟨m - 1, [(0, .v (.int .u64 (n / 256 ^ (i + 1)))), (5, .row (bytesD (put n (i + 1))) 1 t2), (12, .v (.int .i64 k)), (13, .v (.int .i64 ((i + 1) : Nat)))], by omega, ⟨i + 1, t2, by omega, rfl, rfl, ht2, h20⟩, sub_cons rfl (sub_cons ?_ zq10)⟩
        simp [zlook, cellsD, byte1, put]
      · have g4 : decide ((i : Int) < k) = false := decide_eq_false hlt
        (repeat (first | ((with_reducible apply zr_seq)) | ((with_reducible apply zr_region); (try simp only [List.append_eq, List.cons_append, List.nil_append])) | ((with_reducible apply zo_end)) | ((with_reducible apply zs_move); (exact rfl); (exact rfl)) | ((with_reducible apply zs_assign); (exact rfl); (exact rfl)) | ((with_reducible apply zr_cond_f); (exact rfl); (first | assumption | exact rfl)) | (with_reducible refine zr_exit ?_; simp only [Zthen, Zblock, ↓reduceIte])))
        refine zr_retZ rfl (resD_tmp rfl (resD_nil _ _ _)) ?_
        have hi : i = k.toNat := by omega
        subst hi
        have := hK t' ht' ht0'
        rw [if_pos (by omega)] at this
        exact this

/-! ### le.Get -/
def getSpec : ZSpec := fun args st K => ∃ (l : List UInt8) (tk : Nat), args = [.row (bytesD l) 1 tk] ∧ l.length ≤ 140737488355328 ∧ K (.v (.int .u64 (get l))) st

attribute [irreducible] put putB num get
end Go.Proofs.ZtLe
namespace Go.Proofs.ZtLe
open Go.RowKit Go.Proofs Go.Proofs.Zm
set_option linter.unusedVariables false
set_option linter.unusedSimpArgs false
set_option maxHeartbeats 20000000
set_option maxRecDepth 100000
attribute [local irreducible] ZWp ZOps ZPure ZPure0 ZVal ZOp SoundF

/-! ### le.Zero -/
def zero (l : List UInt8) : Bool := l.all (· == 0)
theorem zero_of (l : List UInt8) (h : ∀ j, j < l.length → l.getD j 0 = 0) : zero l = true := by
  unfold zero
  rw [List.all_eq_true]
  intro x hx
  obtain ⟨j, hj⟩ := List.mem_iff_getElem?.1 hx
  have hlt := (List.getElem?_eq_some_iff.1 hj).1
  have := h j hlt
  rw [List.getD_eq_getElem?_getD, hj] at this
  simpa using this
theorem zero_not (l : List UInt8) (j : Nat) (hj : j < l.length) (h : l.getD j 0 ≠ 0) : zero l = false := by
  unfold zero
  rw [List.all_eq_false]
  rw [getD_in hj] at h
  exact ⟨l[j], List.getElem_mem hj, by simpa using h⟩
theorem byte_ne {b : UInt8} (h : ((b.toNat : Int)) ≠ 0) : b ≠ 0 := fun e => h (by rw [e]; rfl)
def zeroSpec : ZSpec := fun args st K => ∃ (l : List UInt8) (tk : Nat), args = [.row (bytesD l) 1 tk] ∧ l.length ≤ 140737488355328 ∧ K (.v (.bool (zero l))) st

/-! ### le.Pad -/
def padL (l : List UInt8) (most : Int) : Option (List UInt8) := if 0 ≤ most ∧ most ≤ 60000 ∧ (l.length : Int) ≤ most then some (putB l.length 2 ++ l ++ List.replicate (most.toNat - l.length) 0) else none

def padSpec : ZSpec := fun args st K => ∃ (l : List UInt8) (tk : Nat) (most : Int), args = [.row (bytesD l) 1 tk, .v (.int .i64 most)] ∧ l.length ≤ 140737488355328 ∧
  ∀ t, st.T t = false → t ≠ 0 → K (.tup [.row (bytesD ((padL l most).getD [])) 1 t, .v (.bool (padL l most).isSome)]) (st.setT t true)


attribute [irreducible] zero padL
end Go.Proofs.ZtLe
