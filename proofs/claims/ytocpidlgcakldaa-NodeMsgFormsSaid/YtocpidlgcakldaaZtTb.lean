/- A part of the proof of NodeMsgForms: walks of the functions that it reaches. No condition. -/
import Derived.Test.YtocpidlgcakldaaProg
import Derived.Test.YtocpidlgcakldaaZmP2
import Derived.KernelRfl
import Derived.Test.YtocpidlgcakldaaZmAuto
namespace Go.Proofs.ZtLe
open Go.RowKit Go.Proofs Go.Proofs.Zm
set_option linter.unusedVariables false
set_option maxHeartbeats 20000000
set_option maxRecDepth 100000
attribute [local irreducible] ZWp ZOps ZPure ZPure0 ZVal ZOp SoundF
set_option maxRecDepth 100000
noncomputable def infL : List (Nat × Nat × Nat × Option Value) := [(1, 1, 8, some (.nilFunc)), (2, 1, 8, some (.int .i64 0)), (3, 1, 8, some (.int .i64 0)), (4, 1, 1, some (.bool false)), (5, 1, 1, some (.int .u8 0)), (6, 1, 1, some (.int .u8 0)), (7, 4, 24, some (.agg #[.int .i64 0, .int .i64 0, .bool false, .int .u8 0])), (8, 4, 24, some (.agg #[.int .i64 0, .int .i64 0, .bool false, .int .u8 0])), (9, 1, 16, some (.string ⟨#[]⟩)), (10, 1, 16, some (.string ⟨#[]⟩)), (11, 1, 16, some (.string ⟨#[]⟩)), (12, 1, 8, some (.int .u64 0)), (13, 2, 24, some (.agg #[.string ⟨#[]⟩, .int .u64 0])), (14, 2, 24, some (.agg #[.string ⟨#[]⟩, .int .u64 0])), (15, 1, 8, some (.pointer none)), (16, 1, 8, some (.pointer none)), (17, 1, 8, some (.pointer none)), (18, 1, 8, some (.agg #[.pointer none])), (19, 1, 8, some (.agg #[.pointer none])), (20, 1, 16, some (.nilIface)), (21, 1, 4, some (.int .i32 0)), (22, 1, 8, some (.float .f64 0)), (23, 10, 80, some (.agg #[.int .i64 0, .int .i64 0, .int .i64 0, .int .i64 0, .int .i64 0, .int .i64 0, .int .i64 0, .int .i64 0, .int .i64 0, .float .f64 0])), (24, 10, 80, some (.agg #[.int .i64 0, .int .i64 0, .int .i64 0, .int .i64 0, .int .i64 0, .int .i64 0, .int .i64 0, .int .i64 0, .int .i64 0, .float .f64 0])), (25, 1, 24, some (.slice none 0 0)), (26, 1, 24, some (.slice none 0 0)), (27, 1, 24, some (.slice none 0 0)), (28, 1, 8, some (.nilFunc)), (29, 3, 56, some (.agg #[.int .i64 0, .slice none 0 0, .slice none 0 0])), (30, 3, 56, some (.agg #[.int .i64 0, .slice none 0 0, .slice none 0 0])), (31, 1, 24, some (.slice none 0 0)), (32, 1, 24, some (.slice none 0 0)), (33, 5, 104, some (.agg #[.bool false, .slice none 0 0, .slice none 0 0, .slice none 0 0, .slice none 0 0])), (34, 5, 104, some (.agg #[.bool false, .slice none 0 0, .slice none 0 0, .slice none 0 0, .slice none 0 0])), (35, 6, 112, some (.agg #[.bool false, .slice none 0 0, .slice none 0 0, .slice none 0 0, .slice none 0 0, .bool false])), (36, 1, 24, some (.slice none 0 0)), (38, 1, 8, some (.nilFunc)), (39, 1, 8, some (.nilFunc)), (40, 1, 8, some (.nilFunc)), (41, 1, 8, some (.nilFunc)), (42, 4, 64, some (.agg #[.int .i64 0, .slice none 0 0, .slice none 0 0, .bool false])), (43, 1, 24, some (.slice none 0 0)), (44, 1, 8, some (.nilFunc)), (46, 1, 8, some (.nilFunc)), (47, 1, 8, some (.nilFunc)), (48, 1, 8, some (.nilFunc)), (49, 1, 8, some (.nilFunc)), (50, 1, 8, some (.nilFunc)), (51, 1, 8, some (.nilFunc)), (52, 1, 8, some (.nilFunc)), (53, 1, 8, some (.nilFunc)), (55, 1, 8, some (.nilFunc)), (56, 1, 8, some (.nilFunc)), (57, 1, 8, some (.nilFunc)), (58, 1, 8, some (.nilFunc)), (59, 1, 24, some (.slice none 0 0)), (60, 1, 8, some (.nilFunc)), (61, 1, 24, some (.slice none 0 0)), (62, 1, 8, some (.nilFunc)), (63, 1, 8, some (.nilFunc)), (64, 1, 8, some (.nilFunc)), (65, 1, 8, some (.nilFunc)), (66, 2, 48, some (.agg #[.slice none 0 0, .slice none 0 0])), (67, 2, 48, some (.agg #[.slice none 0 0, .slice none 0 0])), (69, 1, 8, some (.nilFunc)), (70, 1, 8, some (.nilFunc)), (71, 1, 8, some (.nilFunc)), (72, 1, 8, some (.nilFunc)), (73, 1, 8, some (.nilFunc)), (74, 1, 24, some (.slice none 0 0)), (75, 1, 8, some (.nilFunc)), (76, 1, 8, some (.nilFunc)), (77, 13, 104, some (.agg #[.int .i64 0, .int .i64 0, .int .i64 0, .int .i64 0, .int .i64 0, .int .i64 0, .int .i64 0, .int .i64 0, .int .i64 0, .int .i64 0, .int .i64 0, .int .i64 0, .int .i64 0])), (78, 13, 104, some (.agg #[.int .i64 0, .int .i64 0, .int .i64 0, .int .i64 0, .int .i64 0, .int .i64 0, .int .i64 0, .int .i64 0, .int .i64 0, .int .i64 0, .int .i64 0, .int .i64 0, .int .i64 0])), (80, 1, 8, some (.nilFunc)), (81, 1, 8, some (.nilFunc)), (82, 1, 8, some (.nilFunc)), (83, 1, 8, some (.nilFunc)), (84, 1, 8, some (.int .u64 0)), (85, 1, 8, some (.nilFunc)), (86, 1, 8, some (.nilFunc)), (87, 1, 8, some (.nilFunc)), (88, 1, 24, some (.slice none 0 0)), (89, 1, 8, some (.int .u64 0)), (90, 1, 8, some (.nilFunc)), (91, 1, 8, some (.nilFunc)), (92, 1, 8, some (.pointer none)), (93, 2, 32, some (.agg #[.slice none 0 0, .bool false])), (94, 2, 32, some (.agg #[.slice none 0 0, .bool false])), (95, 1, 8, some (.nilFunc)), (96, 1, 8, some (.nilFunc)), (97, 1, 8, some (.nilFunc)), (98, 1, 8, some (.nilFunc)), (99, 1, 8, some (.nilFunc)), (100, 1, 8, some (.nilFunc)), (101, 1, 8, some (.nilFunc)), (102, 1, 8, some (.nilFunc)), (103, 1, 8, some (.nilFunc)), (104, 1, 8, some (.nilFunc)), (105, 1, 8, some (.nilFunc)), (106, 1, 8, some (.nilFunc)), (108, 1, 8, some (.nilFunc)), (109, 1, 8, some (.nilFunc)), (110, 1, 8, some (.nilFunc)), (111, 1, 8, some (.nilFunc)), (112, 9, 72, some (.agg #[.int .i64 0, .int .i64 0, .int .i64 0, .int .i64 0, .int .i64 0, .int .i64 0, .int .i64 0, .int .i64 0, .int .i64 0])), (113, 1, 8, some (.nilFunc)), (114, 1, 8, some (.nilFunc)), (115, 1, 8, some (.nilFunc)), (116, 1, 8, some (.nilFunc)), (117, 1, 8, some (.nilFunc)), (118, 1, 8, some (.nilFunc)), (119, 1, 8, some (.nilFunc)), (120, 1, 8, some (.nilFunc)), (121, 1, 8, some (.nilFunc)), (122, 1, 8, some (.nilFunc)), (123, 1, 8, some (.nilFunc)), (124, 1, 8, some (.nilFunc)), (125, 1, 8, some (.nilFunc)), (126, 1, 8, some (.nilFunc)), (127, 1, 8, some (.nilFunc)), (128, 1, 8, some (.nilFunc)), (129, 1, 8, some (.nilFunc)), (130, 1, 8, some (.nilFunc)), (131, 1, 8, some (.nilFunc)), (132, 1, 8, some (.nilFunc)), (133, 1, 8, some (.nilFunc)), (134, 1, 8, some (.nilFunc)), (135, 4, 40, some (.agg #[.pointer none, .pointer none, .pointer none, .string ⟨#[]⟩])), (136, 4, 40, some (.agg #[.pointer none, .pointer none, .pointer none, .string ⟨#[]⟩])), (140, 1, 8, some (.nilFunc)), (141, 1, 4, some (.int .u32 0)), (142, 1, 1, some (.int .u8 0)), (143, 1, 1, some (.int .u8 0)), (144, 1, 8, some (.nilFunc)), (145, 1, 8, some (.pointer none)), (146, 1, 4, some (.int .i32 0)), (147, 1, 4, some (.int .i32 0)), (148, 11, 48, some (.agg #[.int .u64 0, .int .u64 0, .int .u32 0, .int .u8 0, .int .u8 0, .int .u8 0, .int .u8 0, .nilFunc, .pointer none, .int .i32 0, .int .i32 0])), (149, 11, 48, some (.agg #[.int .u64 0, .int .u64 0, .int .u32 0, .int .u8 0, .int .u8 0, .int .u8 0, .int .u8 0, .nilFunc, .pointer none, .int .i32 0, .int .i32 0]))]
theorem infL_ok : infL.map (fun r => inf3 Try.prog r.1) = infL.map (fun r => some r.2) := by kernel_rfl
theorem inf_of {t : Nat} {r : Nat × Nat × Option Value} (h : lkT infL t = some r) : inf3 Try.prog t = some r := (allT_inf infL_ok).get h
theorem sz_of {t k b : Nat} {z : Option Value} (h : lkT infL t = some (k, b, z)) : (Try.prog.info? t).map (·.size) = some k := sz_mk (inf_of h)
theorem ii_of {t k b : Nat} {z : Option Value} (h : lkT infL t = some (k, b, z)) : ∃ i, Try.prog.info? t = some i ∧ i.size = k := ii_mk (inf_of h)
noncomputable def elL : List (Nat × (Nat × Nat × List D)) := [(1, (1, 8, [.v (.nilFunc)])), (2, (1, 8, [.v (.int .i64 0)])), (3, (1, 8, [.v (.int .i64 0)])), (4, (1, 1, [.v (.bool false)])), (5, (1, 1, [.v (.int .u8 0)])), (6, (1, 1, [.v (.int .u8 0)])), (7, (4, 24, [.v (.int .i64 0), .v (.int .i64 0), .v (.bool false), .v (.int .u8 0)])), (8, (4, 24, [.v (.int .i64 0), .v (.int .i64 0), .v (.bool false), .v (.int .u8 0)])), (9, (1, 16, [.v (.string ⟨#[]⟩)])), (10, (1, 16, [.v (.string ⟨#[]⟩)])), (11, (1, 16, [.v (.string ⟨#[]⟩)])), (12, (1, 8, [.v (.int .u64 0)])), (13, (2, 24, [.v (.string ⟨#[]⟩), .v (.int .u64 0)])), (14, (2, 24, [.v (.string ⟨#[]⟩), .v (.int .u64 0)])), (15, (1, 8, [.v (.pointer none)])), (16, (1, 8, [.v (.pointer none)])), (17, (1, 8, [.v (.pointer none)])), (18, (1, 8, [.v (.pointer none)])), (19, (1, 8, [.v (.pointer none)])), (20, (1, 16, [.v (.nilIface)])), (21, (1, 4, [.v (.int .i32 0)])), (22, (1, 8, [.v (.float .f64 0)])), (23, (10, 80, [.v (.int .i64 0), .v (.int .i64 0), .v (.int .i64 0), .v (.int .i64 0), .v (.int .i64 0), .v (.int .i64 0), .v (.int .i64 0), .v (.int .i64 0), .v (.int .i64 0), .v (.float .f64 0)])), (24, (10, 80, [.v (.int .i64 0), .v (.int .i64 0), .v (.int .i64 0), .v (.int .i64 0), .v (.int .i64 0), .v (.int .i64 0), .v (.int .i64 0), .v (.int .i64 0), .v (.int .i64 0), .v (.float .f64 0)])), (25, (1, 24, [.v (.slice none 0 0)])), (26, (1, 24, [.v (.slice none 0 0)])), (27, (1, 24, [.v (.slice none 0 0)])), (28, (1, 8, [.v (.nilFunc)])), (29, (3, 56, [.v (.int .i64 0), .v (.slice none 0 0), .v (.slice none 0 0)])), (30, (3, 56, [.v (.int .i64 0), .v (.slice none 0 0), .v (.slice none 0 0)])), (31, (1, 24, [.v (.slice none 0 0)])), (32, (1, 24, [.v (.slice none 0 0)])), (33, (5, 104, [.v (.bool false), .v (.slice none 0 0), .v (.slice none 0 0), .v (.slice none 0 0), .v (.slice none 0 0)])), (34, (5, 104, [.v (.bool false), .v (.slice none 0 0), .v (.slice none 0 0), .v (.slice none 0 0), .v (.slice none 0 0)])), (35, (6, 112, [.v (.bool false), .v (.slice none 0 0), .v (.slice none 0 0), .v (.slice none 0 0), .v (.slice none 0 0), .v (.bool false)])), (36, (1, 24, [.v (.slice none 0 0)])), (38, (1, 8, [.v (.nilFunc)])), (39, (1, 8, [.v (.nilFunc)])), (40, (1, 8, [.v (.nilFunc)])), (41, (1, 8, [.v (.nilFunc)])), (42, (4, 64, [.v (.int .i64 0), .v (.slice none 0 0), .v (.slice none 0 0), .v (.bool false)])), (43, (1, 24, [.v (.slice none 0 0)])), (44, (1, 8, [.v (.nilFunc)])), (46, (1, 8, [.v (.nilFunc)])), (47, (1, 8, [.v (.nilFunc)])), (48, (1, 8, [.v (.nilFunc)])), (49, (1, 8, [.v (.nilFunc)])), (50, (1, 8, [.v (.nilFunc)])), (51, (1, 8, [.v (.nilFunc)])), (52, (1, 8, [.v (.nilFunc)])), (53, (1, 8, [.v (.nilFunc)])), (55, (1, 8, [.v (.nilFunc)])), (56, (1, 8, [.v (.nilFunc)])), (57, (1, 8, [.v (.nilFunc)])), (58, (1, 8, [.v (.nilFunc)])), (59, (1, 24, [.v (.slice none 0 0)])), (60, (1, 8, [.v (.nilFunc)])), (61, (1, 24, [.v (.slice none 0 0)])), (62, (1, 8, [.v (.nilFunc)])), (63, (1, 8, [.v (.nilFunc)])), (64, (1, 8, [.v (.nilFunc)])), (65, (1, 8, [.v (.nilFunc)])), (66, (2, 48, [.v (.slice none 0 0), .v (.slice none 0 0)])), (67, (2, 48, [.v (.slice none 0 0), .v (.slice none 0 0)])), (69, (1, 8, [.v (.nilFunc)])), (70, (1, 8, [.v (.nilFunc)])), (71, (1, 8, [.v (.nilFunc)])), (72, (1, 8, [.v (.nilFunc)])), (73, (1, 8, [.v (.nilFunc)])), (74, (1, 24, [.v (.slice none 0 0)])), (75, (1, 8, [.v (.nilFunc)])), (76, (1, 8, [.v (.nilFunc)])), (77, (13, 104, [.v (.int .i64 0), .v (.int .i64 0), .v (.int .i64 0), .v (.int .i64 0), .v (.int .i64 0), .v (.int .i64 0), .v (.int .i64 0), .v (.int .i64 0), .v (.int .i64 0), .v (.int .i64 0), .v (.int .i64 0), .v (.int .i64 0), .v (.int .i64 0)])), (78, (13, 104, [.v (.int .i64 0), .v (.int .i64 0), .v (.int .i64 0), .v (.int .i64 0), .v (.int .i64 0), .v (.int .i64 0), .v (.int .i64 0), .v (.int .i64 0), .v (.int .i64 0), .v (.int .i64 0), .v (.int .i64 0), .v (.int .i64 0), .v (.int .i64 0)])), (80, (1, 8, [.v (.nilFunc)])), (81, (1, 8, [.v (.nilFunc)])), (82, (1, 8, [.v (.nilFunc)])), (83, (1, 8, [.v (.nilFunc)])), (84, (1, 8, [.v (.int .u64 0)])), (85, (1, 8, [.v (.nilFunc)])), (86, (1, 8, [.v (.nilFunc)])), (87, (1, 8, [.v (.nilFunc)])), (88, (1, 24, [.v (.slice none 0 0)])), (89, (1, 8, [.v (.int .u64 0)])), (90, (1, 8, [.v (.nilFunc)])), (91, (1, 8, [.v (.nilFunc)])), (92, (1, 8, [.v (.pointer none)])), (93, (2, 32, [.v (.slice none 0 0), .v (.bool false)])), (94, (2, 32, [.v (.slice none 0 0), .v (.bool false)])), (95, (1, 8, [.v (.nilFunc)])), (96, (1, 8, [.v (.nilFunc)])), (97, (1, 8, [.v (.nilFunc)])), (98, (1, 8, [.v (.nilFunc)])), (99, (1, 8, [.v (.nilFunc)])), (100, (1, 8, [.v (.nilFunc)])), (101, (1, 8, [.v (.nilFunc)])), (102, (1, 8, [.v (.nilFunc)])), (103, (1, 8, [.v (.nilFunc)])), (104, (1, 8, [.v (.nilFunc)])), (105, (1, 8, [.v (.nilFunc)])), (106, (1, 8, [.v (.nilFunc)])), (108, (1, 8, [.v (.nilFunc)])), (109, (1, 8, [.v (.nilFunc)])), (110, (1, 8, [.v (.nilFunc)])), (111, (1, 8, [.v (.nilFunc)])), (112, (9, 72, [.v (.int .i64 0), .v (.int .i64 0), .v (.int .i64 0), .v (.int .i64 0), .v (.int .i64 0), .v (.int .i64 0), .v (.int .i64 0), .v (.int .i64 0), .v (.int .i64 0)])), (113, (1, 8, [.v (.nilFunc)])), (114, (1, 8, [.v (.nilFunc)])), (115, (1, 8, [.v (.nilFunc)])), (116, (1, 8, [.v (.nilFunc)])), (117, (1, 8, [.v (.nilFunc)])), (118, (1, 8, [.v (.nilFunc)])), (119, (1, 8, [.v (.nilFunc)])), (120, (1, 8, [.v (.nilFunc)])), (121, (1, 8, [.v (.nilFunc)])), (122, (1, 8, [.v (.nilFunc)])), (123, (1, 8, [.v (.nilFunc)])), (124, (1, 8, [.v (.nilFunc)])), (125, (1, 8, [.v (.nilFunc)])), (126, (1, 8, [.v (.nilFunc)])), (127, (1, 8, [.v (.nilFunc)])), (128, (1, 8, [.v (.nilFunc)])), (129, (1, 8, [.v (.nilFunc)])), (130, (1, 8, [.v (.nilFunc)])), (131, (1, 8, [.v (.nilFunc)])), (132, (1, 8, [.v (.nilFunc)])), (133, (1, 8, [.v (.nilFunc)])), (134, (1, 8, [.v (.nilFunc)])), (135, (4, 40, [.v (.pointer none), .v (.pointer none), .v (.pointer none), .v (.string ⟨#[]⟩)])), (136, (4, 40, [.v (.pointer none), .v (.pointer none), .v (.pointer none), .v (.string ⟨#[]⟩)])), (140, (1, 8, [.v (.nilFunc)])), (141, (1, 4, [.v (.int .u32 0)])), (142, (1, 1, [.v (.int .u8 0)])), (143, (1, 1, [.v (.int .u8 0)])), (144, (1, 8, [.v (.nilFunc)])), (145, (1, 8, [.v (.pointer none)])), (146, (1, 4, [.v (.int .i32 0)])), (147, (1, 4, [.v (.int .i32 0)])), (148, (11, 48, [.v (.int .u64 0), .v (.int .u64 0), .v (.int .u32 0), .v (.int .u8 0), .v (.int .u8 0), .v (.int .u8 0), .v (.int .u8 0), .v (.nilFunc), .v (.pointer none), .v (.int .i32 0), .v (.int .i32 0)])), (149, (11, 48, [.v (.int .u64 0), .v (.int .u64 0), .v (.int .u32 0), .v (.int .u8 0), .v (.int .u8 0), .v (.int .u8 0), .v (.int .u8 0), .v (.nilFunc), .v (.pointer none), .v (.int .i32 0), .v (.int .i32 0)]))]
theorem elL_ok : AllT (fun t r => ElemOk Try.prog t r.1 r.2.1 r.2.2) elL := by
  refine And.intro (el_mk (inf_of rfl) rfl rfl (by decide) (by decide)) ?_
  refine And.intro (el_mk (inf_of rfl) rfl rfl (by decide) (by decide)) ?_
  refine And.intro (el_mk (inf_of rfl) rfl rfl (by decide) (by decide)) ?_
  refine And.intro (el_mk (inf_of rfl) rfl rfl (by decide) (by decide)) ?_
  refine And.intro (el_mk (inf_of rfl) rfl rfl (by decide) (by decide)) ?_
  refine And.intro (el_mk (inf_of rfl) rfl rfl (by decide) (by decide)) ?_
  refine And.intro (el_mk (inf_of rfl) rfl rfl (by decide) (by decide)) ?_
  refine And.intro (el_mk (inf_of rfl) rfl rfl (by decide) (by decide)) ?_
  refine And.intro (el_mk (inf_of rfl) rfl rfl (by decide) (by decide)) ?_
  refine And.intro (el_mk (inf_of rfl) rfl rfl (by decide) (by decide)) ?_
  refine And.intro (el_mk (inf_of rfl) rfl rfl (by decide) (by decide)) ?_
  refine And.intro (el_mk (inf_of rfl) rfl rfl (by decide) (by decide)) ?_
  refine And.intro (el_mk (inf_of rfl) rfl rfl (by decide) (by decide)) ?_
  refine And.intro (el_mk (inf_of rfl) rfl rfl (by decide) (by decide)) ?_
  refine And.intro (el_mk (inf_of rfl) rfl rfl (by decide) (by decide)) ?_
  refine And.intro (el_mk (inf_of rfl) rfl rfl (by decide) (by decide)) ?_
  refine And.intro (el_mk (inf_of rfl) rfl rfl (by decide) (by decide)) ?_
  refine And.intro (el_mk (inf_of rfl) rfl rfl (by decide) (by decide)) ?_
  refine And.intro (el_mk (inf_of rfl) rfl rfl (by decide) (by decide)) ?_
  refine And.intro (el_mk (inf_of rfl) rfl rfl (by decide) (by decide)) ?_
  refine And.intro (el_mk (inf_of rfl) rfl rfl (by decide) (by decide)) ?_
  refine And.intro (el_mk (inf_of rfl) rfl rfl (by decide) (by decide)) ?_
  refine And.intro (el_mk (inf_of rfl) rfl rfl (by decide) (by decide)) ?_
  refine And.intro (el_mk (inf_of rfl) rfl rfl (by decide) (by decide)) ?_
  refine And.intro (el_mk (inf_of rfl) rfl rfl (by decide) (by decide)) ?_
  refine And.intro (el_mk (inf_of rfl) rfl rfl (by decide) (by decide)) ?_
  refine And.intro (el_mk (inf_of rfl) rfl rfl (by decide) (by decide)) ?_
  refine And.intro (el_mk (inf_of rfl) rfl rfl (by decide) (by decide)) ?_
  refine And.intro (el_mk (inf_of rfl) rfl rfl (by decide) (by decide)) ?_
  refine And.intro (el_mk (inf_of rfl) rfl rfl (by decide) (by decide)) ?_
  refine And.intro (el_mk (inf_of rfl) rfl rfl (by decide) (by decide)) ?_
  refine And.intro (el_mk (inf_of rfl) rfl rfl (by decide) (by decide)) ?_
  refine And.intro (el_mk (inf_of rfl) rfl rfl (by decide) (by decide)) ?_
  refine And.intro (el_mk (inf_of rfl) rfl rfl (by decide) (by decide)) ?_
  refine And.intro (el_mk (inf_of rfl) rfl rfl (by decide) (by decide)) ?_
  refine And.intro (el_mk (inf_of rfl) rfl rfl (by decide) (by decide)) ?_
  refine And.intro (el_mk (inf_of rfl) rfl rfl (by decide) (by decide)) ?_
  refine And.intro (el_mk (inf_of rfl) rfl rfl (by decide) (by decide)) ?_
  refine And.intro (el_mk (inf_of rfl) rfl rfl (by decide) (by decide)) ?_
  refine And.intro (el_mk (inf_of rfl) rfl rfl (by decide) (by decide)) ?_
  refine And.intro (el_mk (inf_of rfl) rfl rfl (by decide) (by decide)) ?_
  refine And.intro (el_mk (inf_of rfl) rfl rfl (by decide) (by decide)) ?_
  refine And.intro (el_mk (inf_of rfl) rfl rfl (by decide) (by decide)) ?_
  refine And.intro (el_mk (inf_of rfl) rfl rfl (by decide) (by decide)) ?_
  refine And.intro (el_mk (inf_of rfl) rfl rfl (by decide) (by decide)) ?_
  refine And.intro (el_mk (inf_of rfl) rfl rfl (by decide) (by decide)) ?_
  refine And.intro (el_mk (inf_of rfl) rfl rfl (by decide) (by decide)) ?_
  refine And.intro (el_mk (inf_of rfl) rfl rfl (by decide) (by decide)) ?_
  refine And.intro (el_mk (inf_of rfl) rfl rfl (by decide) (by decide)) ?_
  refine And.intro (el_mk (inf_of rfl) rfl rfl (by decide) (by decide)) ?_
  refine And.intro (el_mk (inf_of rfl) rfl rfl (by decide) (by decide)) ?_
  refine And.intro (el_mk (inf_of rfl) rfl rfl (by decide) (by decide)) ?_
  refine And.intro (el_mk (inf_of rfl) rfl rfl (by decide) (by decide)) ?_
  refine And.intro (el_mk (inf_of rfl) rfl rfl (by decide) (by decide)) ?_
  refine And.intro (el_mk (inf_of rfl) rfl rfl (by decide) (by decide)) ?_
  refine And.intro (el_mk (inf_of rfl) rfl rfl (by decide) (by decide)) ?_
  refine And.intro (el_mk (inf_of rfl) rfl rfl (by decide) (by decide)) ?_
  refine And.intro (el_mk (inf_of rfl) rfl rfl (by decide) (by decide)) ?_
  refine And.intro (el_mk (inf_of rfl) rfl rfl (by decide) (by decide)) ?_
  refine And.intro (el_mk (inf_of rfl) rfl rfl (by decide) (by decide)) ?_
  refine And.intro (el_mk (inf_of rfl) rfl rfl (by decide) (by decide)) ?_
  refine And.intro (el_mk (inf_of rfl) rfl rfl (by decide) (by decide)) ?_
  refine And.intro (el_mk (inf_of rfl) rfl rfl (by decide) (by decide)) ?_
  refine And.intro (el_mk (inf_of rfl) rfl rfl (by decide) (by decide)) ?_
  refine And.intro (el_mk (inf_of rfl) rfl rfl (by decide) (by decide)) ?_
  refine And.intro (el_mk (inf_of rfl) rfl rfl (by decide) (by decide)) ?_
  refine And.intro (el_mk (inf_of rfl) rfl rfl (by decide) (by decide)) ?_
  refine And.intro (el_mk (inf_of rfl) rfl rfl (by decide) (by decide)) ?_
  refine And.intro (el_mk (inf_of rfl) rfl rfl (by decide) (by decide)) ?_
  refine And.intro (el_mk (inf_of rfl) rfl rfl (by decide) (by decide)) ?_
  refine And.intro (el_mk (inf_of rfl) rfl rfl (by decide) (by decide)) ?_
  refine And.intro (el_mk (inf_of rfl) rfl rfl (by decide) (by decide)) ?_
  refine And.intro (el_mk (inf_of rfl) rfl rfl (by decide) (by decide)) ?_
  refine And.intro (el_mk (inf_of rfl) rfl rfl (by decide) (by decide)) ?_
  refine And.intro (el_mk (inf_of rfl) rfl rfl (by decide) (by decide)) ?_
  refine And.intro (el_mk (inf_of rfl) rfl rfl (by decide) (by decide)) ?_
  refine And.intro (el_mk (inf_of rfl) rfl rfl (by decide) (by decide)) ?_
  refine And.intro (el_mk (inf_of rfl) rfl rfl (by decide) (by decide)) ?_
  refine And.intro (el_mk (inf_of rfl) rfl rfl (by decide) (by decide)) ?_
  refine And.intro (el_mk (inf_of rfl) rfl rfl (by decide) (by decide)) ?_
  refine And.intro (el_mk (inf_of rfl) rfl rfl (by decide) (by decide)) ?_
  refine And.intro (el_mk (inf_of rfl) rfl rfl (by decide) (by decide)) ?_
  refine And.intro (el_mk (inf_of rfl) rfl rfl (by decide) (by decide)) ?_
  refine And.intro (el_mk (inf_of rfl) rfl rfl (by decide) (by decide)) ?_
  refine And.intro (el_mk (inf_of rfl) rfl rfl (by decide) (by decide)) ?_
  refine And.intro (el_mk (inf_of rfl) rfl rfl (by decide) (by decide)) ?_
  refine And.intro (el_mk (inf_of rfl) rfl rfl (by decide) (by decide)) ?_
  refine And.intro (el_mk (inf_of rfl) rfl rfl (by decide) (by decide)) ?_
  refine And.intro (el_mk (inf_of rfl) rfl rfl (by decide) (by decide)) ?_
  refine And.intro (el_mk (inf_of rfl) rfl rfl (by decide) (by decide)) ?_
  refine And.intro (el_mk (inf_of rfl) rfl rfl (by decide) (by decide)) ?_
  refine And.intro (el_mk (inf_of rfl) rfl rfl (by decide) (by decide)) ?_
  refine And.intro (el_mk (inf_of rfl) rfl rfl (by decide) (by decide)) ?_
  refine And.intro (el_mk (inf_of rfl) rfl rfl (by decide) (by decide)) ?_
  refine And.intro (el_mk (inf_of rfl) rfl rfl (by decide) (by decide)) ?_
  refine And.intro (el_mk (inf_of rfl) rfl rfl (by decide) (by decide)) ?_
  refine And.intro (el_mk (inf_of rfl) rfl rfl (by decide) (by decide)) ?_
  refine And.intro (el_mk (inf_of rfl) rfl rfl (by decide) (by decide)) ?_
  refine And.intro (el_mk (inf_of rfl) rfl rfl (by decide) (by decide)) ?_
  refine And.intro (el_mk (inf_of rfl) rfl rfl (by decide) (by decide)) ?_
  refine And.intro (el_mk (inf_of rfl) rfl rfl (by decide) (by decide)) ?_
  refine And.intro (el_mk (inf_of rfl) rfl rfl (by decide) (by decide)) ?_
  refine And.intro (el_mk (inf_of rfl) rfl rfl (by decide) (by decide)) ?_
  refine And.intro (el_mk (inf_of rfl) rfl rfl (by decide) (by decide)) ?_
  refine And.intro (el_mk (inf_of rfl) rfl rfl (by decide) (by decide)) ?_
  refine And.intro (el_mk (inf_of rfl) rfl rfl (by decide) (by decide)) ?_
  refine And.intro (el_mk (inf_of rfl) rfl rfl (by decide) (by decide)) ?_
  refine And.intro (el_mk (inf_of rfl) rfl rfl (by decide) (by decide)) ?_
  refine And.intro (el_mk (inf_of rfl) rfl rfl (by decide) (by decide)) ?_
  refine And.intro (el_mk (inf_of rfl) rfl rfl (by decide) (by decide)) ?_
  refine And.intro (el_mk (inf_of rfl) rfl rfl (by decide) (by decide)) ?_
  refine And.intro (el_mk (inf_of rfl) rfl rfl (by decide) (by decide)) ?_
  refine And.intro (el_mk (inf_of rfl) rfl rfl (by decide) (by decide)) ?_
  refine And.intro (el_mk (inf_of rfl) rfl rfl (by decide) (by decide)) ?_
  refine And.intro (el_mk (inf_of rfl) rfl rfl (by decide) (by decide)) ?_
  refine And.intro (el_mk (inf_of rfl) rfl rfl (by decide) (by decide)) ?_
  refine And.intro (el_mk (inf_of rfl) rfl rfl (by decide) (by decide)) ?_
  refine And.intro (el_mk (inf_of rfl) rfl rfl (by decide) (by decide)) ?_
  refine And.intro (el_mk (inf_of rfl) rfl rfl (by decide) (by decide)) ?_
  refine And.intro (el_mk (inf_of rfl) rfl rfl (by decide) (by decide)) ?_
  refine And.intro (el_mk (inf_of rfl) rfl rfl (by decide) (by decide)) ?_
  refine And.intro (el_mk (inf_of rfl) rfl rfl (by decide) (by decide)) ?_
  refine And.intro (el_mk (inf_of rfl) rfl rfl (by decide) (by decide)) ?_
  refine And.intro (el_mk (inf_of rfl) rfl rfl (by decide) (by decide)) ?_
  refine And.intro (el_mk (inf_of rfl) rfl rfl (by decide) (by decide)) ?_
  refine And.intro (el_mk (inf_of rfl) rfl rfl (by decide) (by decide)) ?_
  refine And.intro (el_mk (inf_of rfl) rfl rfl (by decide) (by decide)) ?_
  refine And.intro (el_mk (inf_of rfl) rfl rfl (by decide) (by decide)) ?_
  refine And.intro (el_mk (inf_of rfl) rfl rfl (by decide) (by decide)) ?_
  refine And.intro (el_mk (inf_of rfl) rfl rfl (by decide) (by decide)) ?_
  refine And.intro (el_mk (inf_of rfl) rfl rfl (by decide) (by decide)) ?_
  refine And.intro (el_mk (inf_of rfl) rfl rfl (by decide) (by decide)) ?_
  refine And.intro (el_mk (inf_of rfl) rfl rfl (by decide) (by decide)) ?_
  refine And.intro (el_mk (inf_of rfl) rfl rfl (by decide) (by decide)) ?_
  refine And.intro (el_mk (inf_of rfl) rfl rfl (by decide) (by decide)) ?_
  refine And.intro (el_mk (inf_of rfl) rfl rfl (by decide) (by decide)) ?_
  refine And.intro (el_mk (inf_of rfl) rfl rfl (by decide) (by decide)) ?_
  refine And.intro (el_mk (inf_of rfl) rfl rfl (by decide) (by decide)) ?_
  refine And.intro (el_mk (inf_of rfl) rfl rfl (by decide) (by decide)) ?_
  refine And.intro (el_mk (inf_of rfl) rfl rfl (by decide) (by decide)) ?_
  exact trivial
theorem el_of {t k b : Nat} {z : List D} (h : lkT elL t = some (k, b, z)) : ElemOk Try.prog t k b z := elL_ok.get h
noncomputable def slL : List (Nat × Nat) := [(25, 9), (26, 27), (27, 5), (31, 3), (32, 30), (36, 35), (43, 42), (59, 67), (61, 34), (74, 59), (88, 22)]
theorem slL_ok : AllT (fun t r => Try.prog.underlying t = some (.slice r)) slL := by
  refine And.intro (Try.underlying25) ?_
  refine And.intro (Try.underlying26) ?_
  refine And.intro (Try.underlying27) ?_
  refine And.intro (Try.underlying31) ?_
  refine And.intro (Try.underlying32) ?_
  refine And.intro (Try.underlying36) ?_
  refine And.intro (Try.underlying43) ?_
  refine And.intro (Try.underlying59) ?_
  refine And.intro (Try.underlying61) ?_
  refine And.intro (Try.underlying74) ?_
  refine And.intro (Try.underlying88) ?_
  exact trivial
theorem un_sl {t e : Nat} (h : lkT slL t = some e) : Try.prog.underlying t = some (.slice e) := slL_ok.get h
noncomputable def inL : List (Nat × IntKind) := [(2, .i64), (3, .i64), (5, .u8), (6, .u8), (12, .u64), (21, .i32), (84, .u64), (89, .u64), (141, .u32), (142, .u8), (143, .u8), (146, .i32), (147, .i32)]
theorem inL_ok : AllT (fun t r => Try.prog.underlying t = some (.int r)) inL := by
  refine And.intro (Try.underlying2) ?_
  refine And.intro (Try.underlying3) ?_
  refine And.intro (Try.underlying5) ?_
  refine And.intro (Try.underlying6) ?_
  refine And.intro (Try.underlying12) ?_
  refine And.intro (Try.underlying21) ?_
  refine And.intro (Try.underlying84) ?_
  refine And.intro (Try.underlying89) ?_
  refine And.intro (Try.underlying141) ?_
  refine And.intro (Try.underlying142) ?_
  refine And.intro (Try.underlying143) ?_
  refine And.intro (Try.underlying146) ?_
  refine And.intro (Try.underlying147) ?_
  exact trivial
theorem un_int {t : Nat} {e : IntKind} (h : lkT inL t = some e) : Try.prog.underlying t = some (.int e) := inL_ok.get h
noncomputable def shL : List (Nat × (Bool × Nat)) := [(1, (false, 1)), (2, (false, 1)), (3, (false, 1)), (4, (false, 1)), (5, (false, 1)), (6, (false, 1)), (7, (true, 4)), (8, (true, 4)), (9, (false, 1)), (10, (false, 1)), (11, (false, 1)), (12, (false, 1)), (13, (true, 2)), (14, (true, 2)), (15, (false, 1)), (16, (false, 1)), (17, (false, 1)), (18, (true, 1)), (19, (true, 1)), (20, (false, 1)), (21, (false, 1)), (22, (false, 1)), (23, (true, 10)), (24, (true, 10)), (25, (false, 1)), (26, (false, 1)), (27, (false, 1)), (28, (false, 1)), (29, (true, 3)), (30, (true, 3)), (31, (false, 1)), (32, (false, 1)), (33, (true, 5)), (34, (true, 5)), (35, (true, 6)), (36, (false, 1)), (38, (false, 1)), (39, (false, 1)), (40, (false, 1)), (41, (false, 1)), (42, (true, 4)), (43, (false, 1)), (44, (false, 1)), (46, (false, 1)), (47, (false, 1)), (48, (false, 1)), (49, (false, 1)), (50, (false, 1)), (51, (false, 1)), (52, (false, 1)), (53, (false, 1)), (55, (false, 1)), (56, (false, 1)), (57, (false, 1)), (58, (false, 1)), (59, (false, 1)), (60, (false, 1)), (61, (false, 1)), (62, (false, 1)), (63, (false, 1)), (64, (false, 1)), (65, (false, 1)), (66, (true, 2)), (67, (true, 2)), (69, (false, 1)), (70, (false, 1)), (71, (false, 1)), (72, (false, 1)), (73, (false, 1)), (74, (false, 1)), (75, (false, 1)), (76, (false, 1)), (77, (true, 13)), (78, (true, 13)), (80, (false, 1)), (81, (false, 1)), (82, (false, 1)), (83, (false, 1)), (84, (false, 1)), (85, (false, 1)), (86, (false, 1)), (87, (false, 1)), (88, (false, 1)), (89, (false, 1)), (90, (false, 1)), (91, (false, 1)), (92, (false, 1)), (93, (true, 2)), (94, (true, 2)), (95, (false, 1)), (96, (false, 1)), (97, (false, 1)), (98, (false, 1)), (99, (false, 1)), (100, (false, 1)), (101, (false, 1)), (102, (false, 1)), (103, (false, 1)), (104, (false, 1)), (105, (false, 1)), (106, (false, 1)), (108, (false, 1)), (109, (false, 1)), (110, (false, 1)), (111, (false, 1)), (112, (true, 9)), (113, (false, 1)), (114, (false, 1)), (115, (false, 1)), (116, (false, 1)), (117, (false, 1)), (118, (false, 1)), (119, (false, 1)), (120, (false, 1)), (121, (false, 1)), (122, (false, 1)), (123, (false, 1)), (124, (false, 1)), (125, (false, 1)), (126, (false, 1)), (127, (false, 1)), (128, (false, 1)), (129, (false, 1)), (130, (false, 1)), (131, (false, 1)), (132, (false, 1)), (133, (false, 1)), (134, (false, 1)), (135, (true, 4)), (136, (true, 4)), (140, (false, 1)), (141, (false, 1)), (142, (false, 1)), (143, (false, 1)), (144, (false, 1)), (145, (false, 1)), (146, (false, 1)), (147, (false, 1)), (148, (true, 11)), (149, (true, 11))]
theorem shL_ok : AllT (fun t r => shapeIs Try.prog t r.1 r.2) shL := by
  refine And.intro (shape_one Try.underlying1 trivial (sz_of rfl)) ?_
  refine And.intro (shape_one Try.underlying2 trivial (sz_of rfl)) ?_
  refine And.intro (shape_one Try.underlying3 trivial (sz_of rfl)) ?_
  refine And.intro (shape_one Try.underlying4 trivial (sz_of rfl)) ?_
  refine And.intro (shape_one Try.underlying5 trivial (sz_of rfl)) ?_
  refine And.intro (shape_one Try.underlying6 trivial (sz_of rfl)) ?_
  refine And.intro (⟨ii_of (t := 7) rfl, fun w => by simp [isAgg, run_underlying Try.underlying7], fun h => by cases h⟩) ?_
  refine And.intro (⟨ii_of (t := 8) rfl, fun w => by simp [isAgg, run_underlying Try.underlying8], fun h => by cases h⟩) ?_
  refine And.intro (shape_one Try.underlying9 trivial (sz_of rfl)) ?_
  refine And.intro (shape_one Try.underlying10 trivial (sz_of rfl)) ?_
  refine And.intro (shape_one Try.underlying11 trivial (sz_of rfl)) ?_
  refine And.intro (shape_one Try.underlying12 trivial (sz_of rfl)) ?_
  refine And.intro (⟨ii_of (t := 13) rfl, fun w => by simp [isAgg, run_underlying Try.underlying13], fun h => by cases h⟩) ?_
  refine And.intro (⟨ii_of (t := 14) rfl, fun w => by simp [isAgg, run_underlying Try.underlying14], fun h => by cases h⟩) ?_
  refine And.intro (shape_one Try.underlying15 trivial (sz_of rfl)) ?_
  refine And.intro (shape_one Try.underlying16 trivial (sz_of rfl)) ?_
  refine And.intro (shape_one Try.underlying17 trivial (sz_of rfl)) ?_
  refine And.intro (⟨ii_of (t := 18) rfl, fun w => by simp [isAgg, run_underlying Try.underlying18], fun h => by cases h⟩) ?_
  refine And.intro (⟨ii_of (t := 19) rfl, fun w => by simp [isAgg, run_underlying Try.underlying19], fun h => by cases h⟩) ?_
  refine And.intro (shape_one Try.underlying20 trivial (sz_of rfl)) ?_
  refine And.intro (shape_one Try.underlying21 trivial (sz_of rfl)) ?_
  refine And.intro (shape_one Try.underlying22 trivial (sz_of rfl)) ?_
  refine And.intro (⟨ii_of (t := 23) rfl, fun w => by simp [isAgg, run_underlying Try.underlying23], fun h => by cases h⟩) ?_
  refine And.intro (⟨ii_of (t := 24) rfl, fun w => by simp [isAgg, run_underlying Try.underlying24], fun h => by cases h⟩) ?_
  refine And.intro (shape_one Try.underlying25 trivial (sz_of rfl)) ?_
  refine And.intro (shape_one Try.underlying26 trivial (sz_of rfl)) ?_
  refine And.intro (shape_one Try.underlying27 trivial (sz_of rfl)) ?_
  refine And.intro (shape_one Try.underlying28 trivial (sz_of rfl)) ?_
  refine And.intro (⟨ii_of (t := 29) rfl, fun w => by simp [isAgg, run_underlying Try.underlying29], fun h => by cases h⟩) ?_
  refine And.intro (⟨ii_of (t := 30) rfl, fun w => by simp [isAgg, run_underlying Try.underlying30], fun h => by cases h⟩) ?_
  refine And.intro (shape_one Try.underlying31 trivial (sz_of rfl)) ?_
  refine And.intro (shape_one Try.underlying32 trivial (sz_of rfl)) ?_
  refine And.intro (⟨ii_of (t := 33) rfl, fun w => by simp [isAgg, run_underlying Try.underlying33], fun h => by cases h⟩) ?_
  refine And.intro (⟨ii_of (t := 34) rfl, fun w => by simp [isAgg, run_underlying Try.underlying34], fun h => by cases h⟩) ?_
  refine And.intro (⟨ii_of (t := 35) rfl, fun w => by simp [isAgg, run_underlying Try.underlying35], fun h => by cases h⟩) ?_
  refine And.intro (shape_one Try.underlying36 trivial (sz_of rfl)) ?_
  refine And.intro (shape_one Try.underlying38 trivial (sz_of rfl)) ?_
  refine And.intro (shape_one Try.underlying39 trivial (sz_of rfl)) ?_
  refine And.intro (shape_one Try.underlying40 trivial (sz_of rfl)) ?_
  refine And.intro (shape_one Try.underlying41 trivial (sz_of rfl)) ?_
  refine And.intro (⟨ii_of (t := 42) rfl, fun w => by simp [isAgg, run_underlying Try.underlying42], fun h => by cases h⟩) ?_
  refine And.intro (shape_one Try.underlying43 trivial (sz_of rfl)) ?_
  refine And.intro (shape_one Try.underlying44 trivial (sz_of rfl)) ?_
  refine And.intro (shape_one Try.underlying46 trivial (sz_of rfl)) ?_
  refine And.intro (shape_one Try.underlying47 trivial (sz_of rfl)) ?_
  refine And.intro (shape_one Try.underlying48 trivial (sz_of rfl)) ?_
  refine And.intro (shape_one Try.underlying49 trivial (sz_of rfl)) ?_
  refine And.intro (shape_one Try.underlying50 trivial (sz_of rfl)) ?_
  refine And.intro (shape_one Try.underlying51 trivial (sz_of rfl)) ?_
  refine And.intro (shape_one Try.underlying52 trivial (sz_of rfl)) ?_
  refine And.intro (shape_one Try.underlying53 trivial (sz_of rfl)) ?_
  refine And.intro (shape_one Try.underlying55 trivial (sz_of rfl)) ?_
  refine And.intro (shape_one Try.underlying56 trivial (sz_of rfl)) ?_
  refine And.intro (shape_one Try.underlying57 trivial (sz_of rfl)) ?_
  refine And.intro (shape_one Try.underlying58 trivial (sz_of rfl)) ?_
  refine And.intro (shape_one Try.underlying59 trivial (sz_of rfl)) ?_
  refine And.intro (shape_one Try.underlying60 trivial (sz_of rfl)) ?_
  refine And.intro (shape_one Try.underlying61 trivial (sz_of rfl)) ?_
  refine And.intro (shape_one Try.underlying62 trivial (sz_of rfl)) ?_
  refine And.intro (shape_one Try.underlying63 trivial (sz_of rfl)) ?_
  refine And.intro (shape_one Try.underlying64 trivial (sz_of rfl)) ?_
  refine And.intro (shape_one Try.underlying65 trivial (sz_of rfl)) ?_
  refine And.intro (⟨ii_of (t := 66) rfl, fun w => by simp [isAgg, run_underlying Try.underlying66], fun h => by cases h⟩) ?_
  refine And.intro (⟨ii_of (t := 67) rfl, fun w => by simp [isAgg, run_underlying Try.underlying67], fun h => by cases h⟩) ?_
  refine And.intro (shape_one Try.underlying69 trivial (sz_of rfl)) ?_
  refine And.intro (shape_one Try.underlying70 trivial (sz_of rfl)) ?_
  refine And.intro (shape_one Try.underlying71 trivial (sz_of rfl)) ?_
  refine And.intro (shape_one Try.underlying72 trivial (sz_of rfl)) ?_
  refine And.intro (shape_one Try.underlying73 trivial (sz_of rfl)) ?_
  refine And.intro (shape_one Try.underlying74 trivial (sz_of rfl)) ?_
  refine And.intro (shape_one Try.underlying75 trivial (sz_of rfl)) ?_
  refine And.intro (shape_one Try.underlying76 trivial (sz_of rfl)) ?_
  refine And.intro (⟨ii_of (t := 77) rfl, fun w => by simp [isAgg, run_underlying Try.underlying77], fun h => by cases h⟩) ?_
  refine And.intro (⟨ii_of (t := 78) rfl, fun w => by simp [isAgg, run_underlying Try.underlying78], fun h => by cases h⟩) ?_
  refine And.intro (shape_one Try.underlying80 trivial (sz_of rfl)) ?_
  refine And.intro (shape_one Try.underlying81 trivial (sz_of rfl)) ?_
  refine And.intro (shape_one Try.underlying82 trivial (sz_of rfl)) ?_
  refine And.intro (shape_one Try.underlying83 trivial (sz_of rfl)) ?_
  refine And.intro (shape_one Try.underlying84 trivial (sz_of rfl)) ?_
  refine And.intro (shape_one Try.underlying85 trivial (sz_of rfl)) ?_
  refine And.intro (shape_one Try.underlying86 trivial (sz_of rfl)) ?_
  refine And.intro (shape_one Try.underlying87 trivial (sz_of rfl)) ?_
  refine And.intro (shape_one Try.underlying88 trivial (sz_of rfl)) ?_
  refine And.intro (shape_one Try.underlying89 trivial (sz_of rfl)) ?_
  refine And.intro (shape_one Try.underlying90 trivial (sz_of rfl)) ?_
  refine And.intro (shape_one Try.underlying91 trivial (sz_of rfl)) ?_
  refine And.intro (shape_one Try.underlying92 trivial (sz_of rfl)) ?_
  refine And.intro (⟨ii_of (t := 93) rfl, fun w => by simp [isAgg, run_underlying Try.underlying93], fun h => by cases h⟩) ?_
  refine And.intro (⟨ii_of (t := 94) rfl, fun w => by simp [isAgg, run_underlying Try.underlying94], fun h => by cases h⟩) ?_
  refine And.intro (shape_one Try.underlying95 trivial (sz_of rfl)) ?_
  refine And.intro (shape_one Try.underlying96 trivial (sz_of rfl)) ?_
  refine And.intro (shape_one Try.underlying97 trivial (sz_of rfl)) ?_
  refine And.intro (shape_one Try.underlying98 trivial (sz_of rfl)) ?_
  refine And.intro (shape_one Try.underlying99 trivial (sz_of rfl)) ?_
  refine And.intro (shape_one Try.underlying100 trivial (sz_of rfl)) ?_
  refine And.intro (shape_one Try.underlying101 trivial (sz_of rfl)) ?_
  refine And.intro (shape_one Try.underlying102 trivial (sz_of rfl)) ?_
  refine And.intro (shape_one Try.underlying103 trivial (sz_of rfl)) ?_
  refine And.intro (shape_one Try.underlying104 trivial (sz_of rfl)) ?_
  refine And.intro (shape_one Try.underlying105 trivial (sz_of rfl)) ?_
  refine And.intro (shape_one Try.underlying106 trivial (sz_of rfl)) ?_
  refine And.intro (shape_one Try.underlying108 trivial (sz_of rfl)) ?_
  refine And.intro (shape_one Try.underlying109 trivial (sz_of rfl)) ?_
  refine And.intro (shape_one Try.underlying110 trivial (sz_of rfl)) ?_
  refine And.intro (shape_one Try.underlying111 trivial (sz_of rfl)) ?_
  refine And.intro (⟨ii_of (t := 112) rfl, fun w => by simp [isAgg, run_underlying Try.underlying112], fun h => by cases h⟩) ?_
  refine And.intro (shape_one Try.underlying113 trivial (sz_of rfl)) ?_
  refine And.intro (shape_one Try.underlying114 trivial (sz_of rfl)) ?_
  refine And.intro (shape_one Try.underlying115 trivial (sz_of rfl)) ?_
  refine And.intro (shape_one Try.underlying116 trivial (sz_of rfl)) ?_
  refine And.intro (shape_one Try.underlying117 trivial (sz_of rfl)) ?_
  refine And.intro (shape_one Try.underlying118 trivial (sz_of rfl)) ?_
  refine And.intro (shape_one Try.underlying119 trivial (sz_of rfl)) ?_
  refine And.intro (shape_one Try.underlying120 trivial (sz_of rfl)) ?_
  refine And.intro (shape_one Try.underlying121 trivial (sz_of rfl)) ?_
  refine And.intro (shape_one Try.underlying122 trivial (sz_of rfl)) ?_
  refine And.intro (shape_one Try.underlying123 trivial (sz_of rfl)) ?_
  refine And.intro (shape_one Try.underlying124 trivial (sz_of rfl)) ?_
  refine And.intro (shape_one Try.underlying125 trivial (sz_of rfl)) ?_
  refine And.intro (shape_one Try.underlying126 trivial (sz_of rfl)) ?_
  refine And.intro (shape_one Try.underlying127 trivial (sz_of rfl)) ?_
  refine And.intro (shape_one Try.underlying128 trivial (sz_of rfl)) ?_
  refine And.intro (shape_one Try.underlying129 trivial (sz_of rfl)) ?_
  refine And.intro (shape_one Try.underlying130 trivial (sz_of rfl)) ?_
  refine And.intro (shape_one Try.underlying131 trivial (sz_of rfl)) ?_
  refine And.intro (shape_one Try.underlying132 trivial (sz_of rfl)) ?_
  refine And.intro (shape_one Try.underlying133 trivial (sz_of rfl)) ?_
  refine And.intro (shape_one Try.underlying134 trivial (sz_of rfl)) ?_
  refine And.intro (⟨ii_of (t := 135) rfl, fun w => by simp [isAgg, run_underlying Try.underlying135], fun h => by cases h⟩) ?_
  refine And.intro (⟨ii_of (t := 136) rfl, fun w => by simp [isAgg, run_underlying Try.underlying136], fun h => by cases h⟩) ?_
  refine And.intro (shape_one Try.underlying140 trivial (sz_of rfl)) ?_
  refine And.intro (shape_one Try.underlying141 trivial (sz_of rfl)) ?_
  refine And.intro (shape_one Try.underlying142 trivial (sz_of rfl)) ?_
  refine And.intro (shape_one Try.underlying143 trivial (sz_of rfl)) ?_
  refine And.intro (shape_one Try.underlying144 trivial (sz_of rfl)) ?_
  refine And.intro (shape_one Try.underlying145 trivial (sz_of rfl)) ?_
  refine And.intro (shape_one Try.underlying146 trivial (sz_of rfl)) ?_
  refine And.intro (shape_one Try.underlying147 trivial (sz_of rfl)) ?_
  refine And.intro (⟨ii_of (t := 148) rfl, fun w => by simp [isAgg, run_underlying Try.underlying148], fun h => by cases h⟩) ?_
  refine And.intro (⟨ii_of (t := 149) rfl, fun w => by simp [isAgg, run_underlying Try.underlying149], fun h => by cases h⟩) ?_
  exact trivial
theorem sh_of {t k : Nat} {b : Bool} (h : lkT shL t = some (b, k)) : shapeIs Try.prog t b k := shL_ok.get h
noncomputable def stL : List (Nat × (List (Nat × Nat))) := [(7, [(0, 1), (1, 1), (2, 1), (3, 1)]), (8, [(0, 1), (1, 1), (2, 1), (3, 1)]), (13, [(0, 1), (1, 1)]), (14, [(0, 1), (1, 1)]), (18, [(0, 1)]), (19, [(0, 1)]), (23, [(0, 1), (1, 1), (2, 1), (3, 1), (4, 1), (5, 1), (6, 1), (7, 1), (8, 1), (9, 1)]), (24, [(0, 1), (1, 1), (2, 1), (3, 1), (4, 1), (5, 1), (6, 1), (7, 1), (8, 1), (9, 1)]), (29, [(0, 1), (1, 1), (2, 1)]), (30, [(0, 1), (1, 1), (2, 1)]), (33, [(0, 1), (1, 1), (2, 1), (3, 1), (4, 1)]), (34, [(0, 1), (1, 1), (2, 1), (3, 1), (4, 1)]), (35, [(0, 5), (5, 1)]), (42, [(0, 3), (3, 1)]), (66, [(0, 1), (1, 1)]), (67, [(0, 1), (1, 1)]), (77, [(0, 1), (1, 1), (2, 1), (3, 1), (4, 1), (5, 1), (6, 1), (7, 1), (8, 1), (9, 1), (10, 1), (11, 1), (12, 1)]), (78, [(0, 1), (1, 1), (2, 1), (3, 1), (4, 1), (5, 1), (6, 1), (7, 1), (8, 1), (9, 1), (10, 1), (11, 1), (12, 1)]), (93, [(0, 1), (1, 1)]), (94, [(0, 1), (1, 1)]), (135, [(0, 1), (1, 1), (2, 1), (3, 1)]), (136, [(0, 1), (1, 1), (2, 1), (3, 1)]), (148, [(0, 1), (1, 1), (2, 1), (3, 1), (4, 1), (5, 1), (6, 1), (7, 1), (8, 1), (9, 1), (10, 1)]), (149, [(0, 1), (1, 1), (2, 1), (3, 1), (4, 1), (5, 1), (6, 1), (7, 1), (8, 1), (9, 1), (10, 1)])]
theorem stL_ok : AllT (fun t r => structIs Try.prog t r) stL := by
  refine And.intro (⟨_, Try.underlying7, by kernel_rfl, by kernel_rfl⟩) ?_
  refine And.intro (⟨_, Try.underlying8, by kernel_rfl, by kernel_rfl⟩) ?_
  refine And.intro (⟨_, Try.underlying13, by kernel_rfl, by kernel_rfl⟩) ?_
  refine And.intro (⟨_, Try.underlying14, by kernel_rfl, by kernel_rfl⟩) ?_
  refine And.intro (⟨_, Try.underlying18, by kernel_rfl, by kernel_rfl⟩) ?_
  refine And.intro (⟨_, Try.underlying19, by kernel_rfl, by kernel_rfl⟩) ?_
  refine And.intro (⟨_, Try.underlying23, by kernel_rfl, by kernel_rfl⟩) ?_
  refine And.intro (⟨_, Try.underlying24, by kernel_rfl, by kernel_rfl⟩) ?_
  refine And.intro (⟨_, Try.underlying29, by kernel_rfl, by kernel_rfl⟩) ?_
  refine And.intro (⟨_, Try.underlying30, by kernel_rfl, by kernel_rfl⟩) ?_
  refine And.intro (⟨_, Try.underlying33, by kernel_rfl, by kernel_rfl⟩) ?_
  refine And.intro (⟨_, Try.underlying34, by kernel_rfl, by kernel_rfl⟩) ?_
  refine And.intro (⟨_, Try.underlying35, by kernel_rfl, by kernel_rfl⟩) ?_
  refine And.intro (⟨_, Try.underlying42, by kernel_rfl, by kernel_rfl⟩) ?_
  refine And.intro (⟨_, Try.underlying66, by kernel_rfl, by kernel_rfl⟩) ?_
  refine And.intro (⟨_, Try.underlying67, by kernel_rfl, by kernel_rfl⟩) ?_
  refine And.intro (⟨_, Try.underlying77, by kernel_rfl, by kernel_rfl⟩) ?_
  refine And.intro (⟨_, Try.underlying78, by kernel_rfl, by kernel_rfl⟩) ?_
  refine And.intro (⟨_, Try.underlying93, by kernel_rfl, by kernel_rfl⟩) ?_
  refine And.intro (⟨_, Try.underlying94, by kernel_rfl, by kernel_rfl⟩) ?_
  refine And.intro (⟨_, Try.underlying135, by kernel_rfl, by kernel_rfl⟩) ?_
  refine And.intro (⟨_, Try.underlying136, by kernel_rfl, by kernel_rfl⟩) ?_
  refine And.intro (⟨_, Try.underlying148, by kernel_rfl, by kernel_rfl⟩) ?_
  refine And.intro (⟨_, Try.underlying149, by kernel_rfl, by kernel_rfl⟩) ?_
  exact trivial
theorem st_of {t : Nat} {pl : List (Nat × Nat)} (h : lkT stL t = some pl) : structIs Try.prog t pl := stL_ok.get h
noncomputable def flL : List (Nat × Nat × Nat) := [(7, 0, 0), (7, 1, 1), (7, 2, 2), (7, 3, 3), (8, 0, 0), (8, 1, 1), (8, 2, 2), (8, 3, 3), (13, 0, 0), (13, 1, 1), (14, 0, 0), (14, 1, 1), (18, 0, 0), (19, 0, 0), (23, 0, 0), (23, 1, 1), (23, 2, 2), (23, 3, 3), (23, 4, 4), (23, 5, 5), (23, 6, 6), (23, 7, 7), (23, 8, 8), (23, 9, 9), (24, 0, 0), (24, 1, 1), (24, 2, 2), (24, 3, 3), (24, 4, 4), (24, 5, 5), (24, 6, 6), (24, 7, 7), (24, 8, 8), (24, 9, 9), (29, 0, 0), (29, 1, 1), (29, 2, 2), (30, 0, 0), (30, 1, 1), (30, 2, 2), (33, 0, 0), (33, 1, 1), (33, 2, 2), (33, 3, 3), (33, 4, 4), (34, 0, 0), (34, 1, 1), (34, 2, 2), (34, 3, 3), (34, 4, 4), (35, 0, 0), (35, 1, 5), (42, 0, 0), (42, 1, 3), (66, 0, 0), (66, 1, 1), (67, 0, 0), (67, 1, 1), (77, 0, 0), (77, 1, 1), (77, 2, 2), (77, 3, 3), (77, 4, 4), (77, 5, 5), (77, 6, 6), (77, 7, 7), (77, 8, 8), (77, 9, 9), (77, 10, 10), (77, 11, 11), (77, 12, 12), (78, 0, 0), (78, 1, 1), (78, 2, 2), (78, 3, 3), (78, 4, 4), (78, 5, 5), (78, 6, 6), (78, 7, 7), (78, 8, 8), (78, 9, 9), (78, 10, 10), (78, 11, 11), (78, 12, 12), (93, 0, 0), (93, 1, 1), (94, 0, 0), (94, 1, 1), (135, 0, 0), (135, 1, 1), (135, 2, 2), (135, 3, 3), (136, 0, 0), (136, 1, 1), (136, 2, 2), (136, 3, 3), (148, 0, 0), (148, 1, 1), (148, 2, 2), (148, 3, 3), (148, 4, 4), (148, 5, 5), (148, 6, 6), (148, 7, 7), (148, 8, 8), (148, 9, 9), (148, 10, 10), (149, 0, 0), (149, 1, 1), (149, 2, 2), (149, 3, 3), (149, 4, 4), (149, 5, 5), (149, 6, 6), (149, 7, 7), (149, 8, 8), (149, 9, 9), (149, 10, 10)]
theorem flL_ok : AllF (fieldIs Try.prog) flL := by
  refine And.intro (fld_mk (ft := 0) Try.underlying7 rfl rfl (inf_of rfl) (by decide)) ?_
  refine And.intro (fld_mk (ft := 0) Try.underlying7 rfl rfl (inf_of rfl) (by decide)) ?_
  refine And.intro (fld_mk (ft := 0) Try.underlying7 rfl rfl (inf_of rfl) (by decide)) ?_
  refine And.intro (fld_mk (ft := 0) Try.underlying7 rfl rfl (inf_of rfl) (by decide)) ?_
  refine And.intro (fld_mk (ft := 0) Try.underlying8 rfl rfl (inf_of rfl) (by decide)) ?_
  refine And.intro (fld_mk (ft := 0) Try.underlying8 rfl rfl (inf_of rfl) (by decide)) ?_
  refine And.intro (fld_mk (ft := 0) Try.underlying8 rfl rfl (inf_of rfl) (by decide)) ?_
  refine And.intro (fld_mk (ft := 0) Try.underlying8 rfl rfl (inf_of rfl) (by decide)) ?_
  refine And.intro (fld_mk (ft := 0) Try.underlying13 rfl rfl (inf_of rfl) (by decide)) ?_
  refine And.intro (fld_mk (ft := 0) Try.underlying13 rfl rfl (inf_of rfl) (by decide)) ?_
  refine And.intro (fld_mk (ft := 0) Try.underlying14 rfl rfl (inf_of rfl) (by decide)) ?_
  refine And.intro (fld_mk (ft := 0) Try.underlying14 rfl rfl (inf_of rfl) (by decide)) ?_
  refine And.intro (fld_mk (ft := 0) Try.underlying18 rfl rfl (inf_of rfl) (by decide)) ?_
  refine And.intro (fld_mk (ft := 0) Try.underlying19 rfl rfl (inf_of rfl) (by decide)) ?_
  refine And.intro (fld_mk (ft := 0) Try.underlying23 rfl rfl (inf_of rfl) (by decide)) ?_
  refine And.intro (fld_mk (ft := 0) Try.underlying23 rfl rfl (inf_of rfl) (by decide)) ?_
  refine And.intro (fld_mk (ft := 0) Try.underlying23 rfl rfl (inf_of rfl) (by decide)) ?_
  refine And.intro (fld_mk (ft := 0) Try.underlying23 rfl rfl (inf_of rfl) (by decide)) ?_
  refine And.intro (fld_mk (ft := 0) Try.underlying23 rfl rfl (inf_of rfl) (by decide)) ?_
  refine And.intro (fld_mk (ft := 0) Try.underlying23 rfl rfl (inf_of rfl) (by decide)) ?_
  refine And.intro (fld_mk (ft := 0) Try.underlying23 rfl rfl (inf_of rfl) (by decide)) ?_
  refine And.intro (fld_mk (ft := 0) Try.underlying23 rfl rfl (inf_of rfl) (by decide)) ?_
  refine And.intro (fld_mk (ft := 0) Try.underlying23 rfl rfl (inf_of rfl) (by decide)) ?_
  refine And.intro (fld_mk (ft := 0) Try.underlying23 rfl rfl (inf_of rfl) (by decide)) ?_
  refine And.intro (fld_mk (ft := 0) Try.underlying24 rfl rfl (inf_of rfl) (by decide)) ?_
  refine And.intro (fld_mk (ft := 0) Try.underlying24 rfl rfl (inf_of rfl) (by decide)) ?_
  refine And.intro (fld_mk (ft := 0) Try.underlying24 rfl rfl (inf_of rfl) (by decide)) ?_
  refine And.intro (fld_mk (ft := 0) Try.underlying24 rfl rfl (inf_of rfl) (by decide)) ?_
  refine And.intro (fld_mk (ft := 0) Try.underlying24 rfl rfl (inf_of rfl) (by decide)) ?_
  refine And.intro (fld_mk (ft := 0) Try.underlying24 rfl rfl (inf_of rfl) (by decide)) ?_
  refine And.intro (fld_mk (ft := 0) Try.underlying24 rfl rfl (inf_of rfl) (by decide)) ?_
  refine And.intro (fld_mk (ft := 0) Try.underlying24 rfl rfl (inf_of rfl) (by decide)) ?_
  refine And.intro (fld_mk (ft := 0) Try.underlying24 rfl rfl (inf_of rfl) (by decide)) ?_
  refine And.intro (fld_mk (ft := 0) Try.underlying24 rfl rfl (inf_of rfl) (by decide)) ?_
  refine And.intro (fld_mk (ft := 0) Try.underlying29 rfl rfl (inf_of rfl) (by decide)) ?_
  refine And.intro (fld_mk (ft := 0) Try.underlying29 rfl rfl (inf_of rfl) (by decide)) ?_
  refine And.intro (fld_mk (ft := 0) Try.underlying29 rfl rfl (inf_of rfl) (by decide)) ?_
  refine And.intro (fld_mk (ft := 0) Try.underlying30 rfl rfl (inf_of rfl) (by decide)) ?_
  refine And.intro (fld_mk (ft := 0) Try.underlying30 rfl rfl (inf_of rfl) (by decide)) ?_
  refine And.intro (fld_mk (ft := 0) Try.underlying30 rfl rfl (inf_of rfl) (by decide)) ?_
  refine And.intro (fld_mk (ft := 0) Try.underlying33 rfl rfl (inf_of rfl) (by decide)) ?_
  refine And.intro (fld_mk (ft := 0) Try.underlying33 rfl rfl (inf_of rfl) (by decide)) ?_
  refine And.intro (fld_mk (ft := 0) Try.underlying33 rfl rfl (inf_of rfl) (by decide)) ?_
  refine And.intro (fld_mk (ft := 0) Try.underlying33 rfl rfl (inf_of rfl) (by decide)) ?_
  refine And.intro (fld_mk (ft := 0) Try.underlying33 rfl rfl (inf_of rfl) (by decide)) ?_
  refine And.intro (fld_mk (ft := 0) Try.underlying34 rfl rfl (inf_of rfl) (by decide)) ?_
  refine And.intro (fld_mk (ft := 0) Try.underlying34 rfl rfl (inf_of rfl) (by decide)) ?_
  refine And.intro (fld_mk (ft := 0) Try.underlying34 rfl rfl (inf_of rfl) (by decide)) ?_
  refine And.intro (fld_mk (ft := 0) Try.underlying34 rfl rfl (inf_of rfl) (by decide)) ?_
  refine And.intro (fld_mk (ft := 0) Try.underlying34 rfl rfl (inf_of rfl) (by decide)) ?_
  refine And.intro (fld_mk (ft := 0) Try.underlying35 rfl rfl (inf_of rfl) (by decide)) ?_
  refine And.intro (fld_mk (ft := 0) Try.underlying35 rfl rfl (inf_of rfl) (by decide)) ?_
  refine And.intro (fld_mk (ft := 0) Try.underlying42 rfl rfl (inf_of rfl) (by decide)) ?_
  refine And.intro (fld_mk (ft := 0) Try.underlying42 rfl rfl (inf_of rfl) (by decide)) ?_
  refine And.intro (fld_mk (ft := 0) Try.underlying66 rfl rfl (inf_of rfl) (by decide)) ?_
  refine And.intro (fld_mk (ft := 0) Try.underlying66 rfl rfl (inf_of rfl) (by decide)) ?_
  refine And.intro (fld_mk (ft := 0) Try.underlying67 rfl rfl (inf_of rfl) (by decide)) ?_
  refine And.intro (fld_mk (ft := 0) Try.underlying67 rfl rfl (inf_of rfl) (by decide)) ?_
  refine And.intro (fld_mk (ft := 0) Try.underlying77 rfl rfl (inf_of rfl) (by decide)) ?_
  refine And.intro (fld_mk (ft := 0) Try.underlying77 rfl rfl (inf_of rfl) (by decide)) ?_
  refine And.intro (fld_mk (ft := 0) Try.underlying77 rfl rfl (inf_of rfl) (by decide)) ?_
  refine And.intro (fld_mk (ft := 0) Try.underlying77 rfl rfl (inf_of rfl) (by decide)) ?_
  refine And.intro (fld_mk (ft := 0) Try.underlying77 rfl rfl (inf_of rfl) (by decide)) ?_
  refine And.intro (fld_mk (ft := 0) Try.underlying77 rfl rfl (inf_of rfl) (by decide)) ?_
  refine And.intro (fld_mk (ft := 0) Try.underlying77 rfl rfl (inf_of rfl) (by decide)) ?_
  refine And.intro (fld_mk (ft := 0) Try.underlying77 rfl rfl (inf_of rfl) (by decide)) ?_
  refine And.intro (fld_mk (ft := 0) Try.underlying77 rfl rfl (inf_of rfl) (by decide)) ?_
  refine And.intro (fld_mk (ft := 0) Try.underlying77 rfl rfl (inf_of rfl) (by decide)) ?_
  refine And.intro (fld_mk (ft := 0) Try.underlying77 rfl rfl (inf_of rfl) (by decide)) ?_
  refine And.intro (fld_mk (ft := 0) Try.underlying77 rfl rfl (inf_of rfl) (by decide)) ?_
  refine And.intro (fld_mk (ft := 0) Try.underlying77 rfl rfl (inf_of rfl) (by decide)) ?_
  refine And.intro (fld_mk (ft := 0) Try.underlying78 rfl rfl (inf_of rfl) (by decide)) ?_
  refine And.intro (fld_mk (ft := 0) Try.underlying78 rfl rfl (inf_of rfl) (by decide)) ?_
  refine And.intro (fld_mk (ft := 0) Try.underlying78 rfl rfl (inf_of rfl) (by decide)) ?_
  refine And.intro (fld_mk (ft := 0) Try.underlying78 rfl rfl (inf_of rfl) (by decide)) ?_
  refine And.intro (fld_mk (ft := 0) Try.underlying78 rfl rfl (inf_of rfl) (by decide)) ?_
  refine And.intro (fld_mk (ft := 0) Try.underlying78 rfl rfl (inf_of rfl) (by decide)) ?_
  refine And.intro (fld_mk (ft := 0) Try.underlying78 rfl rfl (inf_of rfl) (by decide)) ?_
  refine And.intro (fld_mk (ft := 0) Try.underlying78 rfl rfl (inf_of rfl) (by decide)) ?_
  refine And.intro (fld_mk (ft := 0) Try.underlying78 rfl rfl (inf_of rfl) (by decide)) ?_
  refine And.intro (fld_mk (ft := 0) Try.underlying78 rfl rfl (inf_of rfl) (by decide)) ?_
  refine And.intro (fld_mk (ft := 0) Try.underlying78 rfl rfl (inf_of rfl) (by decide)) ?_
  refine And.intro (fld_mk (ft := 0) Try.underlying78 rfl rfl (inf_of rfl) (by decide)) ?_
  refine And.intro (fld_mk (ft := 0) Try.underlying78 rfl rfl (inf_of rfl) (by decide)) ?_
  refine And.intro (fld_mk (ft := 0) Try.underlying93 rfl rfl (inf_of rfl) (by decide)) ?_
  refine And.intro (fld_mk (ft := 0) Try.underlying93 rfl rfl (inf_of rfl) (by decide)) ?_
  refine And.intro (fld_mk (ft := 0) Try.underlying94 rfl rfl (inf_of rfl) (by decide)) ?_
  refine And.intro (fld_mk (ft := 0) Try.underlying94 rfl rfl (inf_of rfl) (by decide)) ?_
  refine And.intro (fld_mk (ft := 0) Try.underlying135 rfl rfl (inf_of rfl) (by decide)) ?_
  refine And.intro (fld_mk (ft := 0) Try.underlying135 rfl rfl (inf_of rfl) (by decide)) ?_
  refine And.intro (fld_mk (ft := 0) Try.underlying135 rfl rfl (inf_of rfl) (by decide)) ?_
  refine And.intro (fld_mk (ft := 0) Try.underlying135 rfl rfl (inf_of rfl) (by decide)) ?_
  refine And.intro (fld_mk (ft := 0) Try.underlying136 rfl rfl (inf_of rfl) (by decide)) ?_
  refine And.intro (fld_mk (ft := 0) Try.underlying136 rfl rfl (inf_of rfl) (by decide)) ?_
  refine And.intro (fld_mk (ft := 0) Try.underlying136 rfl rfl (inf_of rfl) (by decide)) ?_
  refine And.intro (fld_mk (ft := 0) Try.underlying136 rfl rfl (inf_of rfl) (by decide)) ?_
  refine And.intro (fld_mk (ft := 0) Try.underlying148 rfl rfl (inf_of rfl) (by decide)) ?_
  refine And.intro (fld_mk (ft := 0) Try.underlying148 rfl rfl (inf_of rfl) (by decide)) ?_
  refine And.intro (fld_mk (ft := 0) Try.underlying148 rfl rfl (inf_of rfl) (by decide)) ?_
  refine And.intro (fld_mk (ft := 0) Try.underlying148 rfl rfl (inf_of rfl) (by decide)) ?_
  refine And.intro (fld_mk (ft := 0) Try.underlying148 rfl rfl (inf_of rfl) (by decide)) ?_
  refine And.intro (fld_mk (ft := 0) Try.underlying148 rfl rfl (inf_of rfl) (by decide)) ?_
  refine And.intro (fld_mk (ft := 0) Try.underlying148 rfl rfl (inf_of rfl) (by decide)) ?_
  refine And.intro (fld_mk (ft := 0) Try.underlying148 rfl rfl (inf_of rfl) (by decide)) ?_
  refine And.intro (fld_mk (ft := 0) Try.underlying148 rfl rfl (inf_of rfl) (by decide)) ?_
  refine And.intro (fld_mk (ft := 0) Try.underlying148 rfl rfl (inf_of rfl) (by decide)) ?_
  refine And.intro (fld_mk (ft := 0) Try.underlying148 rfl rfl (inf_of rfl) (by decide)) ?_
  refine And.intro (fld_mk (ft := 0) Try.underlying149 rfl rfl (inf_of rfl) (by decide)) ?_
  refine And.intro (fld_mk (ft := 0) Try.underlying149 rfl rfl (inf_of rfl) (by decide)) ?_
  refine And.intro (fld_mk (ft := 0) Try.underlying149 rfl rfl (inf_of rfl) (by decide)) ?_
  refine And.intro (fld_mk (ft := 0) Try.underlying149 rfl rfl (inf_of rfl) (by decide)) ?_
  refine And.intro (fld_mk (ft := 0) Try.underlying149 rfl rfl (inf_of rfl) (by decide)) ?_
  refine And.intro (fld_mk (ft := 0) Try.underlying149 rfl rfl (inf_of rfl) (by decide)) ?_
  refine And.intro (fld_mk (ft := 0) Try.underlying149 rfl rfl (inf_of rfl) (by decide)) ?_
  refine And.intro (fld_mk (ft := 0) Try.underlying149 rfl rfl (inf_of rfl) (by decide)) ?_
  refine And.intro (fld_mk (ft := 0) Try.underlying149 rfl rfl (inf_of rfl) (by decide)) ?_
  refine And.intro (fld_mk (ft := 0) Try.underlying149 rfl rfl (inf_of rfl) (by decide)) ?_
  refine And.intro (fld_mk (ft := 0) Try.underlying149 rfl rfl (inf_of rfl) (by decide)) ?_
  exact trivial
theorem fld_of {t f off : Nat} (h : lkF flL t f = some off) : fieldIs Try.prog t f off := flL_ok.get h
noncomputable def ptL : List (Nat × Unit) := [(15, ()), (16, ()), (17, ()), (92, ()), (145, ())]
end Go.Proofs.ZtLe
