/- A part of the proof of MesgApart: walks of the functions that it reaches. No condition. -/
import Derived.Test.YtakicgmmpjmniaaProg
import Derived.Test.YtakicgmmpjmniaaZmP2
import Derived.KernelRfl
import Derived.Test.YtakicgmmpjmniaaZmAuto
namespace Go.Proofs.ZtLe
open Go.RowKit Go.Proofs Go.Proofs.Zm
set_option linter.unusedVariables false
set_option maxHeartbeats 20000000
set_option maxRecDepth 100000
attribute [local irreducible] ZWp ZOps ZPure ZPure0 ZVal ZOp SoundF
set_option maxRecDepth 100000
noncomputable def infL : List (Nat × Nat × Nat × Option Value) := [(1, 1, 8, some (.nilFunc)), (2, 1, 8, some (.int .i64 0)), (3, 1, 8, some (.int .i64 0)), (4, 1, 1, some (.bool false)), (5, 1, 1, some (.int .u8 0)), (6, 1, 1, some (.int .u8 0)), (7, 4, 24, some (.agg #[.int .i64 0, .int .i64 0, .bool false, .int .u8 0])), (8, 4, 24, some (.agg #[.int .i64 0, .int .i64 0, .bool false, .int .u8 0])), (9, 1, 16, some (.string ⟨#[]⟩)), (10, 1, 16, some (.string ⟨#[]⟩)), (11, 1, 16, some (.string ⟨#[]⟩)), (12, 1, 8, some (.int .u64 0)), (13, 2, 24, some (.agg #[.string ⟨#[]⟩, .int .u64 0])), (14, 2, 24, some (.agg #[.string ⟨#[]⟩, .int .u64 0])), (15, 1, 8, some (.pointer none)), (16, 1, 8, some (.pointer none)), (17, 1, 8, some (.pointer none)), (18, 1, 8, some (.agg #[.pointer none])), (19, 1, 8, some (.agg #[.pointer none])), (20, 1, 16, some (.nilIface)), (21, 1, 4, some (.int .i32 0)), (22, 1, 8, some (.float .f64 0)), (23, 10, 80, some (.agg #[.int .i64 0, .int .i64 0, .int .i64 0, .int .i64 0, .int .i64 0, .int .i64 0, .int .i64 0, .int .i64 0, .int .i64 0, .float .f64 0])), (24, 10, 80, some (.agg #[.int .i64 0, .int .i64 0, .int .i64 0, .int .i64 0, .int .i64 0, .int .i64 0, .int .i64 0, .int .i64 0, .int .i64 0, .float .f64 0])), (25, 1, 24, some (.slice none 0 0)), (26, 1, 8, some (.nilFunc)), (27, 1, 24, some (.slice none 0 0)), (28, 1, 8, some (.nilFunc)), (29, 1, 24, some (.slice none 0 0)), (30, 1, 8, some (.nilFunc)), (31, 1, 24, some (.slice none 0 0)), (32, 3, 56, some (.agg #[.int .i64 0, .slice none 0 0, .slice none 0 0])), (33, 3, 56, some (.agg #[.int .i64 0, .slice none 0 0, .slice none 0 0])), (34, 1, 8, some (.int .u64 0)), (35, 1, 8, some (.nilFunc)), (36, 1, 8, some (.nilFunc)), (37, 1, 8, some (.nilFunc)), (38, 1, 8, some (.nilFunc)), (39, 1, 8, some (.nilFunc)), (40, 1, 8, some (.nilFunc)), (41, 1, 8, some (.nilFunc)), (43, 1, 8, some (.nilFunc)), (44, 1, 8, some (.nilFunc)), (45, 1, 8, some (.nilFunc)), (46, 1, 8, some (.nilFunc)), (47, 1, 8, some (.nilFunc)), (48, 2, 48, some (.agg #[.slice none 0 0, .slice none 0 0])), (49, 2, 48, some (.agg #[.slice none 0 0, .slice none 0 0])), (50, 1, 8, some (.nilFunc)), (51, 1, 8, some (.nilFunc)), (52, 1, 8, some (.nilFunc)), (53, 1, 8, some (.nilFunc)), (54, 1, 8, some (.nilFunc)), (55, 5, 88, some (.agg #[.slice none 0 0, .bool false, .slice none 0 0, .slice none 0 0, .bool false])), (56, 1, 8, some (.nilFunc)), (57, 1, 8, some (.nilFunc)), (58, 1, 24, some (.slice none 0 0)), (59, 1, 8, some (.nilFunc)), (60, 1, 24, some (.slice none 0 0)), (61, 1, 8, some (.nilFunc)), (62, 1, 8, some (.nilFunc)), (63, 1, 8, some (.int .u64 0)), (64, 1, 8, some (.nilFunc)), (65, 1, 8, some (.nilFunc)), (66, 1, 24, some (.slice none 0 0)), (67, 1, 8, some (.nilFunc)), (68, 1, 8, some (.nilFunc)), (69, 1, 8, some (.nilFunc)), (70, 1, 8, some (.nilFunc)), (71, 1, 8, some (.nilFunc)), (72, 1, 8, some (.nilFunc)), (73, 1, 8, some (.nilFunc)), (74, 1, 24, some (.slice none 0 0)), (75, 1, 8, some (.nilFunc)), (76, 1, 8, some (.nilFunc)), (77, 1, 8, some (.nilFunc)), (78, 1, 8, some (.nilFunc)), (80, 1, 8, some (.nilFunc)), (81, 1, 8, some (.nilFunc)), (82, 1, 8, some (.nilFunc)), (83, 1, 8, some (.nilFunc)), (84, 1, 8, some (.nilFunc)), (85, 1, 8, some (.nilFunc)), (86, 1, 8, some (.nilFunc)), (87, 1, 8, some (.nilFunc)), (88, 4, 40, some (.agg #[.pointer none, .pointer none, .pointer none, .string ⟨#[]⟩])), (89, 4, 40, some (.agg #[.pointer none, .pointer none, .pointer none, .string ⟨#[]⟩])), (93, 1, 8, some (.nilFunc)), (94, 1, 4, some (.int .u32 0)), (95, 1, 1, some (.int .u8 0)), (96, 1, 1, some (.int .u8 0)), (97, 1, 8, some (.nilFunc)), (98, 1, 8, some (.pointer none)), (99, 1, 4, some (.int .i32 0)), (100, 1, 4, some (.int .i32 0)), (101, 11, 48, some (.agg #[.int .u64 0, .int .u64 0, .int .u32 0, .int .u8 0, .int .u8 0, .int .u8 0, .int .u8 0, .nilFunc, .pointer none, .int .i32 0, .int .i32 0])), (102, 11, 48, some (.agg #[.int .u64 0, .int .u64 0, .int .u32 0, .int .u8 0, .int .u8 0, .int .u8 0, .int .u8 0, .nilFunc, .pointer none, .int .i32 0, .int .i32 0]))]
theorem infL_ok : infL.map (fun r => inf3 Try.prog r.1) = infL.map (fun r => some r.2) := by kernel_rfl
theorem inf_of {t : Nat} {r : Nat × Nat × Option Value} (h : lkT infL t = some r) : inf3 Try.prog t = some r := (allT_inf infL_ok).get h
theorem sz_of {t k b : Nat} {z : Option Value} (h : lkT infL t = some (k, b, z)) : (Try.prog.info? t).map (·.size) = some k := sz_mk (inf_of h)
theorem ii_of {t k b : Nat} {z : Option Value} (h : lkT infL t = some (k, b, z)) : ∃ i, Try.prog.info? t = some i ∧ i.size = k := ii_mk (inf_of h)
noncomputable def elL : List (Nat × (Nat × Nat × List D)) := [(1, (1, 8, [.v (.nilFunc)])), (2, (1, 8, [.v (.int .i64 0)])), (3, (1, 8, [.v (.int .i64 0)])), (4, (1, 1, [.v (.bool false)])), (5, (1, 1, [.v (.int .u8 0)])), (6, (1, 1, [.v (.int .u8 0)])), (7, (4, 24, [.v (.int .i64 0), .v (.int .i64 0), .v (.bool false), .v (.int .u8 0)])), (8, (4, 24, [.v (.int .i64 0), .v (.int .i64 0), .v (.bool false), .v (.int .u8 0)])), (9, (1, 16, [.v (.string ⟨#[]⟩)])), (10, (1, 16, [.v (.string ⟨#[]⟩)])), (11, (1, 16, [.v (.string ⟨#[]⟩)])), (12, (1, 8, [.v (.int .u64 0)])), (13, (2, 24, [.v (.string ⟨#[]⟩), .v (.int .u64 0)])), (14, (2, 24, [.v (.string ⟨#[]⟩), .v (.int .u64 0)])), (15, (1, 8, [.v (.pointer none)])), (16, (1, 8, [.v (.pointer none)])), (17, (1, 8, [.v (.pointer none)])), (18, (1, 8, [.v (.pointer none)])), (19, (1, 8, [.v (.pointer none)])), (20, (1, 16, [.v (.nilIface)])), (21, (1, 4, [.v (.int .i32 0)])), (22, (1, 8, [.v (.float .f64 0)])), (23, (10, 80, [.v (.int .i64 0), .v (.int .i64 0), .v (.int .i64 0), .v (.int .i64 0), .v (.int .i64 0), .v (.int .i64 0), .v (.int .i64 0), .v (.int .i64 0), .v (.int .i64 0), .v (.float .f64 0)])), (24, (10, 80, [.v (.int .i64 0), .v (.int .i64 0), .v (.int .i64 0), .v (.int .i64 0), .v (.int .i64 0), .v (.int .i64 0), .v (.int .i64 0), .v (.int .i64 0), .v (.int .i64 0), .v (.float .f64 0)])), (25, (1, 24, [.v (.slice none 0 0)])), (26, (1, 8, [.v (.nilFunc)])), (27, (1, 24, [.v (.slice none 0 0)])), (28, (1, 8, [.v (.nilFunc)])), (29, (1, 24, [.v (.slice none 0 0)])), (30, (1, 8, [.v (.nilFunc)])), (31, (1, 24, [.v (.slice none 0 0)])), (32, (3, 56, [.v (.int .i64 0), .v (.slice none 0 0), .v (.slice none 0 0)])), (33, (3, 56, [.v (.int .i64 0), .v (.slice none 0 0), .v (.slice none 0 0)])), (34, (1, 8, [.v (.int .u64 0)])), (35, (1, 8, [.v (.nilFunc)])), (36, (1, 8, [.v (.nilFunc)])), (37, (1, 8, [.v (.nilFunc)])), (38, (1, 8, [.v (.nilFunc)])), (39, (1, 8, [.v (.nilFunc)])), (40, (1, 8, [.v (.nilFunc)])), (41, (1, 8, [.v (.nilFunc)])), (43, (1, 8, [.v (.nilFunc)])), (44, (1, 8, [.v (.nilFunc)])), (45, (1, 8, [.v (.nilFunc)])), (46, (1, 8, [.v (.nilFunc)])), (47, (1, 8, [.v (.nilFunc)])), (48, (2, 48, [.v (.slice none 0 0), .v (.slice none 0 0)])), (49, (2, 48, [.v (.slice none 0 0), .v (.slice none 0 0)])), (50, (1, 8, [.v (.nilFunc)])), (51, (1, 8, [.v (.nilFunc)])), (52, (1, 8, [.v (.nilFunc)])), (53, (1, 8, [.v (.nilFunc)])), (54, (1, 8, [.v (.nilFunc)])), (55, (5, 88, [.v (.slice none 0 0), .v (.bool false), .v (.slice none 0 0), .v (.slice none 0 0), .v (.bool false)])), (56, (1, 8, [.v (.nilFunc)])), (57, (1, 8, [.v (.nilFunc)])), (58, (1, 24, [.v (.slice none 0 0)])), (59, (1, 8, [.v (.nilFunc)])), (60, (1, 24, [.v (.slice none 0 0)])), (61, (1, 8, [.v (.nilFunc)])), (62, (1, 8, [.v (.nilFunc)])), (63, (1, 8, [.v (.int .u64 0)])), (64, (1, 8, [.v (.nilFunc)])), (65, (1, 8, [.v (.nilFunc)])), (66, (1, 24, [.v (.slice none 0 0)])), (67, (1, 8, [.v (.nilFunc)])), (68, (1, 8, [.v (.nilFunc)])), (69, (1, 8, [.v (.nilFunc)])), (70, (1, 8, [.v (.nilFunc)])), (71, (1, 8, [.v (.nilFunc)])), (72, (1, 8, [.v (.nilFunc)])), (73, (1, 8, [.v (.nilFunc)])), (74, (1, 24, [.v (.slice none 0 0)])), (75, (1, 8, [.v (.nilFunc)])), (76, (1, 8, [.v (.nilFunc)])), (77, (1, 8, [.v (.nilFunc)])), (78, (1, 8, [.v (.nilFunc)])), (80, (1, 8, [.v (.nilFunc)])), (81, (1, 8, [.v (.nilFunc)])), (82, (1, 8, [.v (.nilFunc)])), (83, (1, 8, [.v (.nilFunc)])), (84, (1, 8, [.v (.nilFunc)])), (85, (1, 8, [.v (.nilFunc)])), (86, (1, 8, [.v (.nilFunc)])), (87, (1, 8, [.v (.nilFunc)])), (88, (4, 40, [.v (.pointer none), .v (.pointer none), .v (.pointer none), .v (.string ⟨#[]⟩)])), (89, (4, 40, [.v (.pointer none), .v (.pointer none), .v (.pointer none), .v (.string ⟨#[]⟩)])), (93, (1, 8, [.v (.nilFunc)])), (94, (1, 4, [.v (.int .u32 0)])), (95, (1, 1, [.v (.int .u8 0)])), (96, (1, 1, [.v (.int .u8 0)])), (97, (1, 8, [.v (.nilFunc)])), (98, (1, 8, [.v (.pointer none)])), (99, (1, 4, [.v (.int .i32 0)])), (100, (1, 4, [.v (.int .i32 0)])), (101, (11, 48, [.v (.int .u64 0), .v (.int .u64 0), .v (.int .u32 0), .v (.int .u8 0), .v (.int .u8 0), .v (.int .u8 0), .v (.int .u8 0), .v (.nilFunc), .v (.pointer none), .v (.int .i32 0), .v (.int .i32 0)])), (102, (11, 48, [.v (.int .u64 0), .v (.int .u64 0), .v (.int .u32 0), .v (.int .u8 0), .v (.int .u8 0), .v (.int .u8 0), .v (.int .u8 0), .v (.nilFunc), .v (.pointer none), .v (.int .i32 0), .v (.int .i32 0)]))]
theorem elL_ok : AllT (fun t r => ElemOk Try.prog t r.1 r.2.1 r.2.2) elL := by
  refine And.intro (el_mk (inf_of rfl) rfl rfl (by decide) (by decide)) ?_
  refine And.intro (el_mk (inf_of rfl) rfl rfl (by decide) (by decide)) ?_
  refine And.intro (el_mk (inf_of rfl) rfl rfl (by decide) (by decide)) ?_
  refine And.intro (el_mk (inf_of rfl) rfl rfl (by decide) (by decide)) ?_
  refine And.intro (el_mk (inf_of rfl) rfl rfl (by decide) (by decide)) ?_
  refine And.intro (el_mk (inf_of rfl) rfl rfl (by decide) (by decide)) ?_
  refine And.intro (el_mk (inf_of rfl) rfl rfl (by decide) (by decide)) ?_
  refine And.intro (el_mk (inf_of rfl) rfl rfl (by decide) (by decide)) ?_
  refine And.intro (el_mk (inf_of rfl) rfl rfl (by decide) (by decide)) ?_
  refine And.intro (el_mk (inf_of rfl) rfl rfl (by decide) (by decide)) ?_
  refine And.intro (el_mk (inf_of rfl) rfl rfl (by decide) (by decide)) ?_
  refine And.intro (el_mk (inf_of rfl) rfl rfl (by decide) (by decide)) ?_
  refine And.intro (el_mk (inf_of rfl) rfl rfl (by decide) (by decide)) ?_
  refine And.intro (el_mk (inf_of rfl) rfl rfl (by decide) (by decide)) ?_
  refine And.intro (el_mk (inf_of rfl) rfl rfl (by decide) (by decide)) ?_
  refine And.intro (el_mk (inf_of rfl) rfl rfl (by decide) (by decide)) ?_
  refine And.intro (el_mk (inf_of rfl) rfl rfl (by decide) (by decide)) ?_
  refine And.intro (el_mk (inf_of rfl) rfl rfl (by decide) (by decide)) ?_
  refine And.intro (el_mk (inf_of rfl) rfl rfl (by decide) (by decide)) ?_
  refine And.intro (el_mk (inf_of rfl) rfl rfl (by decide) (by decide)) ?_
  refine And.intro (el_mk (inf_of rfl) rfl rfl (by decide) (by decide)) ?_
  refine And.intro (el_mk (inf_of rfl) rfl rfl (by decide) (by decide)) ?_
  refine And.intro (el_mk (inf_of rfl) rfl rfl (by decide) (by decide)) ?_
  refine And.intro (el_mk (inf_of rfl) rfl rfl (by decide) (by decide)) ?_
  refine And.intro (el_mk (inf_of rfl) rfl rfl (by decide) (by decide)) ?_
  refine And.intro (el_mk (inf_of rfl) rfl rfl (by decide) (by decide)) ?_
  refine And.intro (el_mk (inf_of rfl) rfl rfl (by decide) (by decide)) ?_
  refine And.intro (el_mk (inf_of rfl) rfl rfl (by decide) (by decide)) ?_
  refine And.intro (el_mk (inf_of rfl) rfl rfl (by decide) (by decide)) ?_
  refine And.intro (el_mk (inf_of rfl) rfl rfl (by decide) (by decide)) ?_
  refine And.intro (el_mk (inf_of rfl) rfl rfl (by decide) (by decide)) ?_
  refine And.intro (el_mk (inf_of rfl) rfl rfl (by decide) (by decide)) ?_
  refine And.intro (el_mk (inf_of rfl) rfl rfl (by decide) (by decide)) ?_
  refine And.intro (el_mk (inf_of rfl) rfl rfl (by decide) (by decide)) ?_
  refine And.intro (el_mk (inf_of rfl) rfl rfl (by decide) (by decide)) ?_
  refine And.intro (el_mk (inf_of rfl) rfl rfl (by decide) (by decide)) ?_
  refine And.intro (el_mk (inf_of rfl) rfl rfl (by decide) (by decide)) ?_
  refine And.intro (el_mk (inf_of rfl) rfl rfl (by decide) (by decide)) ?_
  refine And.intro (el_mk (inf_of rfl) rfl rfl (by decide) (by decide)) ?_
  refine And.intro (el_mk (inf_of rfl) rfl rfl (by decide) (by decide)) ?_
  refine And.intro (el_mk (inf_of rfl) rfl rfl (by decide) (by decide)) ?_
  refine And.intro (el_mk (inf_of rfl) rfl rfl (by decide) (by decide)) ?_
  refine And.intro (el_mk (inf_of rfl) rfl rfl (by decide) (by decide)) ?_
  refine And.intro (el_mk (inf_of rfl) rfl rfl (by decide) (by decide)) ?_
  refine And.intro (el_mk (inf_of rfl) rfl rfl (by decide) (by decide)) ?_
  refine And.intro (el_mk (inf_of rfl) rfl rfl (by decide) (by decide)) ?_
  refine And.intro (el_mk (inf_of rfl) rfl rfl (by decide) (by decide)) ?_
  refine And.intro (el_mk (inf_of rfl) rfl rfl (by decide) (by decide)) ?_
  refine And.intro (el_mk (inf_of rfl) rfl rfl (by decide) (by decide)) ?_
  refine And.intro (el_mk (inf_of rfl) rfl rfl (by decide) (by decide)) ?_
  refine And.intro (el_mk (inf_of rfl) rfl rfl (by decide) (by decide)) ?_
  refine And.intro (el_mk (inf_of rfl) rfl rfl (by decide) (by decide)) ?_
  refine And.intro (el_mk (inf_of rfl) rfl rfl (by decide) (by decide)) ?_
  refine And.intro (el_mk (inf_of rfl) rfl rfl (by decide) (by decide)) ?_
  refine And.intro (el_mk (inf_of rfl) rfl rfl (by decide) (by decide)) ?_
  refine And.intro (el_mk (inf_of rfl) rfl rfl (by decide) (by decide)) ?_
  refine And.intro (el_mk (inf_of rfl) rfl rfl (by decide) (by decide)) ?_
  refine And.intro (el_mk (inf_of rfl) rfl rfl (by decide) (by decide)) ?_
  refine And.intro (el_mk (inf_of rfl) rfl rfl (by decide) (by decide)) ?_
  refine And.intro (el_mk (inf_of rfl) rfl rfl (by decide) (by decide)) ?_
  refine And.intro (el_mk (inf_of rfl) rfl rfl (by decide) (by decide)) ?_
  refine And.intro (el_mk (inf_of rfl) rfl rfl (by decide) (by decide)) ?_
  refine And.intro (el_mk (inf_of rfl) rfl rfl (by decide) (by decide)) ?_
  refine And.intro (el_mk (inf_of rfl) rfl rfl (by decide) (by decide)) ?_
  refine And.intro (el_mk (inf_of rfl) rfl rfl (by decide) (by decide)) ?_
  refine And.intro (el_mk (inf_of rfl) rfl rfl (by decide) (by decide)) ?_
  refine And.intro (el_mk (inf_of rfl) rfl rfl (by decide) (by decide)) ?_
  refine And.intro (el_mk (inf_of rfl) rfl rfl (by decide) (by decide)) ?_
  refine And.intro (el_mk (inf_of rfl) rfl rfl (by decide) (by decide)) ?_
  refine And.intro (el_mk (inf_of rfl) rfl rfl (by decide) (by decide)) ?_
  refine And.intro (el_mk (inf_of rfl) rfl rfl (by decide) (by decide)) ?_
  refine And.intro (el_mk (inf_of rfl) rfl rfl (by decide) (by decide)) ?_
  refine And.intro (el_mk (inf_of rfl) rfl rfl (by decide) (by decide)) ?_
  refine And.intro (el_mk (inf_of rfl) rfl rfl (by decide) (by decide)) ?_
  refine And.intro (el_mk (inf_of rfl) rfl rfl (by decide) (by decide)) ?_
  refine And.intro (el_mk (inf_of rfl) rfl rfl (by decide) (by decide)) ?_
  refine And.intro (el_mk (inf_of rfl) rfl rfl (by decide) (by decide)) ?_
  refine And.intro (el_mk (inf_of rfl) rfl rfl (by decide) (by decide)) ?_
  refine And.intro (el_mk (inf_of rfl) rfl rfl (by decide) (by decide)) ?_
  refine And.intro (el_mk (inf_of rfl) rfl rfl (by decide) (by decide)) ?_
  refine And.intro (el_mk (inf_of rfl) rfl rfl (by decide) (by decide)) ?_
  refine And.intro (el_mk (inf_of rfl) rfl rfl (by decide) (by decide)) ?_
  refine And.intro (el_mk (inf_of rfl) rfl rfl (by decide) (by decide)) ?_
  refine And.intro (el_mk (inf_of rfl) rfl rfl (by decide) (by decide)) ?_
  refine And.intro (el_mk (inf_of rfl) rfl rfl (by decide) (by decide)) ?_
  refine And.intro (el_mk (inf_of rfl) rfl rfl (by decide) (by decide)) ?_
  refine And.intro (el_mk (inf_of rfl) rfl rfl (by decide) (by decide)) ?_
  refine And.intro (el_mk (inf_of rfl) rfl rfl (by decide) (by decide)) ?_
  refine And.intro (el_mk (inf_of rfl) rfl rfl (by decide) (by decide)) ?_
  refine And.intro (el_mk (inf_of rfl) rfl rfl (by decide) (by decide)) ?_
  refine And.intro (el_mk (inf_of rfl) rfl rfl (by decide) (by decide)) ?_
  refine And.intro (el_mk (inf_of rfl) rfl rfl (by decide) (by decide)) ?_
  refine And.intro (el_mk (inf_of rfl) rfl rfl (by decide) (by decide)) ?_
  refine And.intro (el_mk (inf_of rfl) rfl rfl (by decide) (by decide)) ?_
  refine And.intro (el_mk (inf_of rfl) rfl rfl (by decide) (by decide)) ?_
  refine And.intro (el_mk (inf_of rfl) rfl rfl (by decide) (by decide)) ?_
  refine And.intro (el_mk (inf_of rfl) rfl rfl (by decide) (by decide)) ?_
  exact trivial
theorem el_of {t k b : Nat} {z : List D} (h : lkT elL t = some (k, b, z)) : ElemOk Try.prog t k b z := elL_ok.get h
noncomputable def slL : List (Nat × Nat) := [(25, 3), (27, 49), (29, 33), (31, 5), (58, 55), (60, 63), (66, 22), (74, 9)]
theorem slL_ok : AllT (fun t r => Try.prog.underlying t = some (.slice r)) slL := by
  refine And.intro (Try.underlying25) ?_
  refine And.intro (Try.underlying27) ?_
  refine And.intro (Try.underlying29) ?_
  refine And.intro (Try.underlying31) ?_
  refine And.intro (Try.underlying58) ?_
  refine And.intro (Try.underlying60) ?_
  refine And.intro (Try.underlying66) ?_
  refine And.intro (Try.underlying74) ?_
  exact trivial
theorem un_sl {t e : Nat} (h : lkT slL t = some e) : Try.prog.underlying t = some (.slice e) := slL_ok.get h
noncomputable def inL : List (Nat × IntKind) := [(2, .i64), (3, .i64), (5, .u8), (6, .u8), (12, .u64), (21, .i32), (34, .u64), (63, .u64), (94, .u32), (95, .u8), (96, .u8), (99, .i32), (100, .i32)]
theorem inL_ok : AllT (fun t r => Try.prog.underlying t = some (.int r)) inL := by
  refine And.intro (Try.underlying2) ?_
  refine And.intro (Try.underlying3) ?_
  refine And.intro (Try.underlying5) ?_
  refine And.intro (Try.underlying6) ?_
  refine And.intro (Try.underlying12) ?_
  refine And.intro (Try.underlying21) ?_
  refine And.intro (Try.underlying34) ?_
  refine And.intro (Try.underlying63) ?_
  refine And.intro (Try.underlying94) ?_
  refine And.intro (Try.underlying95) ?_
  refine And.intro (Try.underlying96) ?_
  refine And.intro (Try.underlying99) ?_
  refine And.intro (Try.underlying100) ?_
  exact trivial
theorem un_int {t : Nat} {e : IntKind} (h : lkT inL t = some e) : Try.prog.underlying t = some (.int e) := inL_ok.get h
noncomputable def shL : List (Nat × (Bool × Nat)) := [(1, (false, 1)), (2, (false, 1)), (3, (false, 1)), (4, (false, 1)), (5, (false, 1)), (6, (false, 1)), (7, (true, 4)), (8, (true, 4)), (9, (false, 1)), (10, (false, 1)), (11, (false, 1)), (12, (false, 1)), (13, (true, 2)), (14, (true, 2)), (15, (false, 1)), (16, (false, 1)), (17, (false, 1)), (18, (true, 1)), (19, (true, 1)), (20, (false, 1)), (21, (false, 1)), (22, (false, 1)), (23, (true, 10)), (24, (true, 10)), (25, (false, 1)), (26, (false, 1)), (27, (false, 1)), (28, (false, 1)), (29, (false, 1)), (30, (false, 1)), (31, (false, 1)), (32, (true, 3)), (33, (true, 3)), (34, (false, 1)), (35, (false, 1)), (36, (false, 1)), (37, (false, 1)), (38, (false, 1)), (39, (false, 1)), (40, (false, 1)), (41, (false, 1)), (43, (false, 1)), (44, (false, 1)), (45, (false, 1)), (46, (false, 1)), (47, (false, 1)), (48, (true, 2)), (49, (true, 2)), (50, (false, 1)), (51, (false, 1)), (52, (false, 1)), (53, (false, 1)), (54, (false, 1)), (55, (true, 5)), (56, (false, 1)), (57, (false, 1)), (58, (false, 1)), (59, (false, 1)), (60, (false, 1)), (61, (false, 1)), (62, (false, 1)), (63, (false, 1)), (64, (false, 1)), (65, (false, 1)), (66, (false, 1)), (67, (false, 1)), (68, (false, 1)), (69, (false, 1)), (70, (false, 1)), (71, (false, 1)), (72, (false, 1)), (73, (false, 1)), (74, (false, 1)), (75, (false, 1)), (76, (false, 1)), (77, (false, 1)), (78, (false, 1)), (80, (false, 1)), (81, (false, 1)), (82, (false, 1)), (83, (false, 1)), (84, (false, 1)), (85, (false, 1)), (86, (false, 1)), (87, (false, 1)), (88, (true, 4)), (89, (true, 4)), (93, (false, 1)), (94, (false, 1)), (95, (false, 1)), (96, (false, 1)), (97, (false, 1)), (98, (false, 1)), (99, (false, 1)), (100, (false, 1)), (101, (true, 11)), (102, (true, 11))]
theorem shL_ok : AllT (fun t r => shapeIs Try.prog t r.1 r.2) shL := by
  refine And.intro (shape_one Try.underlying1 trivial (sz_of rfl)) ?_
  refine And.intro (shape_one Try.underlying2 trivial (sz_of rfl)) ?_
  refine And.intro (shape_one Try.underlying3 trivial (sz_of rfl)) ?_
  refine And.intro (shape_one Try.underlying4 trivial (sz_of rfl)) ?_
  refine And.intro (shape_one Try.underlying5 trivial (sz_of rfl)) ?_
  refine And.intro (shape_one Try.underlying6 trivial (sz_of rfl)) ?_
  refine And.intro (⟨ii_of (t := 7) rfl, fun w => by simp [isAgg, run_underlying Try.underlying7], fun h => by cases h⟩) ?_
  refine And.intro (⟨ii_of (t := 8) rfl, fun w => by simp [isAgg, run_underlying Try.underlying8], fun h => by cases h⟩) ?_
  refine And.intro (shape_one Try.underlying9 trivial (sz_of rfl)) ?_
  refine And.intro (shape_one Try.underlying10 trivial (sz_of rfl)) ?_
  refine And.intro (shape_one Try.underlying11 trivial (sz_of rfl)) ?_
  refine And.intro (shape_one Try.underlying12 trivial (sz_of rfl)) ?_
  refine And.intro (⟨ii_of (t := 13) rfl, fun w => by simp [isAgg, run_underlying Try.underlying13], fun h => by cases h⟩) ?_
  refine And.intro (⟨ii_of (t := 14) rfl, fun w => by simp [isAgg, run_underlying Try.underlying14], fun h => by cases h⟩) ?_
  refine And.intro (shape_one Try.underlying15 trivial (sz_of rfl)) ?_
  refine And.intro (shape_one Try.underlying16 trivial (sz_of rfl)) ?_
  refine And.intro (shape_one Try.underlying17 trivial (sz_of rfl)) ?_
  refine And.intro (⟨ii_of (t := 18) rfl, fun w => by simp [isAgg, run_underlying Try.underlying18], fun h => by cases h⟩) ?_
  refine And.intro (⟨ii_of (t := 19) rfl, fun w => by simp [isAgg, run_underlying Try.underlying19], fun h => by cases h⟩) ?_
  refine And.intro (shape_one Try.underlying20 trivial (sz_of rfl)) ?_
  refine And.intro (shape_one Try.underlying21 trivial (sz_of rfl)) ?_
  refine And.intro (shape_one Try.underlying22 trivial (sz_of rfl)) ?_
  refine And.intro (⟨ii_of (t := 23) rfl, fun w => by simp [isAgg, run_underlying Try.underlying23], fun h => by cases h⟩) ?_
  refine And.intro (⟨ii_of (t := 24) rfl, fun w => by simp [isAgg, run_underlying Try.underlying24], fun h => by cases h⟩) ?_
  refine And.intro (shape_one Try.underlying25 trivial (sz_of rfl)) ?_
  refine And.intro (shape_one Try.underlying26 trivial (sz_of rfl)) ?_
  refine And.intro (shape_one Try.underlying27 trivial (sz_of rfl)) ?_
  refine And.intro (shape_one Try.underlying28 trivial (sz_of rfl)) ?_
  refine And.intro (shape_one Try.underlying29 trivial (sz_of rfl)) ?_
  refine And.intro (shape_one Try.underlying30 trivial (sz_of rfl)) ?_
  refine And.intro (shape_one Try.underlying31 trivial (sz_of rfl)) ?_
  refine And.intro (⟨ii_of (t := 32) rfl, fun w => by simp [isAgg, run_underlying Try.underlying32], fun h => by cases h⟩) ?_
  refine And.intro (⟨ii_of (t := 33) rfl, fun w => by simp [isAgg, run_underlying Try.underlying33], fun h => by cases h⟩) ?_
  refine And.intro (shape_one Try.underlying34 trivial (sz_of rfl)) ?_
  refine And.intro (shape_one Try.underlying35 trivial (sz_of rfl)) ?_
  refine And.intro (shape_one Try.underlying36 trivial (sz_of rfl)) ?_
  refine And.intro (shape_one Try.underlying37 trivial (sz_of rfl)) ?_
  refine And.intro (shape_one Try.underlying38 trivial (sz_of rfl)) ?_
  refine And.intro (shape_one Try.underlying39 trivial (sz_of rfl)) ?_
  refine And.intro (shape_one Try.underlying40 trivial (sz_of rfl)) ?_
  refine And.intro (shape_one Try.underlying41 trivial (sz_of rfl)) ?_
  refine And.intro (shape_one Try.underlying43 trivial (sz_of rfl)) ?_
  refine And.intro (shape_one Try.underlying44 trivial (sz_of rfl)) ?_
  refine And.intro (shape_one Try.underlying45 trivial (sz_of rfl)) ?_
  refine And.intro (shape_one Try.underlying46 trivial (sz_of rfl)) ?_
  refine And.intro (shape_one Try.underlying47 trivial (sz_of rfl)) ?_
  refine And.intro (⟨ii_of (t := 48) rfl, fun w => by simp [isAgg, run_underlying Try.underlying48], fun h => by cases h⟩) ?_
  refine And.intro (⟨ii_of (t := 49) rfl, fun w => by simp [isAgg, run_underlying Try.underlying49], fun h => by cases h⟩) ?_
  refine And.intro (shape_one Try.underlying50 trivial (sz_of rfl)) ?_
  refine And.intro (shape_one Try.underlying51 trivial (sz_of rfl)) ?_
  refine And.intro (shape_one Try.underlying52 trivial (sz_of rfl)) ?_
  refine And.intro (shape_one Try.underlying53 trivial (sz_of rfl)) ?_
  refine And.intro (shape_one Try.underlying54 trivial (sz_of rfl)) ?_
  refine And.intro (⟨ii_of (t := 55) rfl, fun w => by simp [isAgg, run_underlying Try.underlying55], fun h => by cases h⟩) ?_
  refine And.intro (shape_one Try.underlying56 trivial (sz_of rfl)) ?_
  refine And.intro (shape_one Try.underlying57 trivial (sz_of rfl)) ?_
  refine And.intro (shape_one Try.underlying58 trivial (sz_of rfl)) ?_
  refine And.intro (shape_one Try.underlying59 trivial (sz_of rfl)) ?_
  refine And.intro (shape_one Try.underlying60 trivial (sz_of rfl)) ?_
  refine And.intro (shape_one Try.underlying61 trivial (sz_of rfl)) ?_
  refine And.intro (shape_one Try.underlying62 trivial (sz_of rfl)) ?_
  refine And.intro (shape_one Try.underlying63 trivial (sz_of rfl)) ?_
  refine And.intro (shape_one Try.underlying64 trivial (sz_of rfl)) ?_
  refine And.intro (shape_one Try.underlying65 trivial (sz_of rfl)) ?_
  refine And.intro (shape_one Try.underlying66 trivial (sz_of rfl)) ?_
  refine And.intro (shape_one Try.underlying67 trivial (sz_of rfl)) ?_
  refine And.intro (shape_one Try.underlying68 trivial (sz_of rfl)) ?_
  refine And.intro (shape_one Try.underlying69 trivial (sz_of rfl)) ?_
  refine And.intro (shape_one Try.underlying70 trivial (sz_of rfl)) ?_
  refine And.intro (shape_one Try.underlying71 trivial (sz_of rfl)) ?_
  refine And.intro (shape_one Try.underlying72 trivial (sz_of rfl)) ?_
  refine And.intro (shape_one Try.underlying73 trivial (sz_of rfl)) ?_
  refine And.intro (shape_one Try.underlying74 trivial (sz_of rfl)) ?_
  refine And.intro (shape_one Try.underlying75 trivial (sz_of rfl)) ?_
  refine And.intro (shape_one Try.underlying76 trivial (sz_of rfl)) ?_
  refine And.intro (shape_one Try.underlying77 trivial (sz_of rfl)) ?_
  refine And.intro (shape_one Try.underlying78 trivial (sz_of rfl)) ?_
  refine And.intro (shape_one Try.underlying80 trivial (sz_of rfl)) ?_
  refine And.intro (shape_one Try.underlying81 trivial (sz_of rfl)) ?_
  refine And.intro (shape_one Try.underlying82 trivial (sz_of rfl)) ?_
  refine And.intro (shape_one Try.underlying83 trivial (sz_of rfl)) ?_
  refine And.intro (shape_one Try.underlying84 trivial (sz_of rfl)) ?_
  refine And.intro (shape_one Try.underlying85 trivial (sz_of rfl)) ?_
  refine And.intro (shape_one Try.underlying86 trivial (sz_of rfl)) ?_
  refine And.intro (shape_one Try.underlying87 trivial (sz_of rfl)) ?_
  refine And.intro (⟨ii_of (t := 88) rfl, fun w => by simp [isAgg, run_underlying Try.underlying88], fun h => by cases h⟩) ?_
  refine And.intro (⟨ii_of (t := 89) rfl, fun w => by simp [isAgg, run_underlying Try.underlying89], fun h => by cases h⟩) ?_
  refine And.intro (shape_one Try.underlying93 trivial (sz_of rfl)) ?_
  refine And.intro (shape_one Try.underlying94 trivial (sz_of rfl)) ?_
  refine And.intro (shape_one Try.underlying95 trivial (sz_of rfl)) ?_
  refine And.intro (shape_one Try.underlying96 trivial (sz_of rfl)) ?_
  refine And.intro (shape_one Try.underlying97 trivial (sz_of rfl)) ?_
  refine And.intro (shape_one Try.underlying98 trivial (sz_of rfl)) ?_
  refine And.intro (shape_one Try.underlying99 trivial (sz_of rfl)) ?_
  refine And.intro (shape_one Try.underlying100 trivial (sz_of rfl)) ?_
  refine And.intro (⟨ii_of (t := 101) rfl, fun w => by simp [isAgg, run_underlying Try.underlying101], fun h => by cases h⟩) ?_
  refine And.intro (⟨ii_of (t := 102) rfl, fun w => by simp [isAgg, run_underlying Try.underlying102], fun h => by cases h⟩) ?_
  exact trivial
theorem sh_of {t k : Nat} {b : Bool} (h : lkT shL t = some (b, k)) : shapeIs Try.prog t b k := shL_ok.get h
noncomputable def stL : List (Nat × (List (Nat × Nat))) := [(7, [(0, 1), (1, 1), (2, 1), (3, 1)]), (8, [(0, 1), (1, 1), (2, 1), (3, 1)]), (13, [(0, 1), (1, 1)]), (14, [(0, 1), (1, 1)]), (18, [(0, 1)]), (19, [(0, 1)]), (23, [(0, 1), (1, 1), (2, 1), (3, 1), (4, 1), (5, 1), (6, 1), (7, 1), (8, 1), (9, 1)]), (24, [(0, 1), (1, 1), (2, 1), (3, 1), (4, 1), (5, 1), (6, 1), (7, 1), (8, 1), (9, 1)]), (32, [(0, 1), (1, 1), (2, 1)]), (33, [(0, 1), (1, 1), (2, 1)]), (48, [(0, 1), (1, 1)]), (49, [(0, 1), (1, 1)]), (55, [(0, 1), (1, 1), (2, 1), (3, 1), (4, 1)]), (88, [(0, 1), (1, 1), (2, 1), (3, 1)]), (89, [(0, 1), (1, 1), (2, 1), (3, 1)]), (101, [(0, 1), (1, 1), (2, 1), (3, 1), (4, 1), (5, 1), (6, 1), (7, 1), (8, 1), (9, 1), (10, 1)]), (102, [(0, 1), (1, 1), (2, 1), (3, 1), (4, 1), (5, 1), (6, 1), (7, 1), (8, 1), (9, 1), (10, 1)])]
theorem stL_ok : AllT (fun t r => structIs Try.prog t r) stL := by
  refine And.intro (⟨_, Try.underlying7, by kernel_rfl, by kernel_rfl⟩) ?_
  refine And.intro (⟨_, Try.underlying8, by kernel_rfl, by kernel_rfl⟩) ?_
  refine And.intro (⟨_, Try.underlying13, by kernel_rfl, by kernel_rfl⟩) ?_
  refine And.intro (⟨_, Try.underlying14, by kernel_rfl, by kernel_rfl⟩) ?_
  refine And.intro (⟨_, Try.underlying18, by kernel_rfl, by kernel_rfl⟩) ?_
  refine And.intro (⟨_, Try.underlying19, by kernel_rfl, by kernel_rfl⟩) ?_
  refine And.intro (⟨_, Try.underlying23, by kernel_rfl, by kernel_rfl⟩) ?_
  refine And.intro (⟨_, Try.underlying24, by kernel_rfl, by kernel_rfl⟩) ?_
  refine And.intro (⟨_, Try.underlying32, by kernel_rfl, by kernel_rfl⟩) ?_
  refine And.intro (⟨_, Try.underlying33, by kernel_rfl, by kernel_rfl⟩) ?_
  refine And.intro (⟨_, Try.underlying48, by kernel_rfl, by kernel_rfl⟩) ?_
  refine And.intro (⟨_, Try.underlying49, by kernel_rfl, by kernel_rfl⟩) ?_
  refine And.intro (⟨_, Try.underlying55, by kernel_rfl, by kernel_rfl⟩) ?_
  refine And.intro (⟨_, Try.underlying88, by kernel_rfl, by kernel_rfl⟩) ?_
  refine And.intro (⟨_, Try.underlying89, by kernel_rfl, by kernel_rfl⟩) ?_
  refine And.intro (⟨_, Try.underlying101, by kernel_rfl, by kernel_rfl⟩) ?_
  refine And.intro (⟨_, Try.underlying102, by kernel_rfl, by kernel_rfl⟩) ?_
  exact trivial
theorem st_of {t : Nat} {pl : List (Nat × Nat)} (h : lkT stL t = some pl) : structIs Try.prog t pl := stL_ok.get h
noncomputable def flL : List (Nat × Nat × Nat) := [(7, 0, 0), (7, 1, 1), (7, 2, 2), (7, 3, 3), (8, 0, 0), (8, 1, 1), (8, 2, 2), (8, 3, 3), (13, 0, 0), (13, 1, 1), (14, 0, 0), (14, 1, 1), (18, 0, 0), (19, 0, 0), (23, 0, 0), (23, 1, 1), (23, 2, 2), (23, 3, 3), (23, 4, 4), (23, 5, 5), (23, 6, 6), (23, 7, 7), (23, 8, 8), (23, 9, 9), (24, 0, 0), (24, 1, 1), (24, 2, 2), (24, 3, 3), (24, 4, 4), (24, 5, 5), (24, 6, 6), (24, 7, 7), (24, 8, 8), (24, 9, 9), (32, 0, 0), (32, 1, 1), (32, 2, 2), (33, 0, 0), (33, 1, 1), (33, 2, 2), (48, 0, 0), (48, 1, 1), (49, 0, 0), (49, 1, 1), (55, 0, 0), (55, 1, 1), (55, 2, 2), (55, 3, 3), (55, 4, 4), (88, 0, 0), (88, 1, 1), (88, 2, 2), (88, 3, 3), (89, 0, 0), (89, 1, 1), (89, 2, 2), (89, 3, 3), (101, 0, 0), (101, 1, 1), (101, 2, 2), (101, 3, 3), (101, 4, 4), (101, 5, 5), (101, 6, 6), (101, 7, 7), (101, 8, 8), (101, 9, 9), (101, 10, 10), (102, 0, 0), (102, 1, 1), (102, 2, 2), (102, 3, 3), (102, 4, 4), (102, 5, 5), (102, 6, 6), (102, 7, 7), (102, 8, 8), (102, 9, 9), (102, 10, 10)]
theorem flL_ok : AllF (fieldIs Try.prog) flL := by
  refine And.intro (fld_mk (ft := 0) Try.underlying7 rfl rfl (inf_of rfl) (by decide)) ?_
  refine And.intro (fld_mk (ft := 0) Try.underlying7 rfl rfl (inf_of rfl) (by decide)) ?_
  refine And.intro (fld_mk (ft := 0) Try.underlying7 rfl rfl (inf_of rfl) (by decide)) ?_
  refine And.intro (fld_mk (ft := 0) Try.underlying7 rfl rfl (inf_of rfl) (by decide)) ?_
  refine And.intro (fld_mk (ft := 0) Try.underlying8 rfl rfl (inf_of rfl) (by decide)) ?_
  refine And.intro (fld_mk (ft := 0) Try.underlying8 rfl rfl (inf_of rfl) (by decide)) ?_
  refine And.intro (fld_mk (ft := 0) Try.underlying8 rfl rfl (inf_of rfl) (by decide)) ?_
  refine And.intro (fld_mk (ft := 0) Try.underlying8 rfl rfl (inf_of rfl) (by decide)) ?_
  refine And.intro (fld_mk (ft := 0) Try.underlying13 rfl rfl (inf_of rfl) (by decide)) ?_
  refine And.intro (fld_mk (ft := 0) Try.underlying13 rfl rfl (inf_of rfl) (by decide)) ?_
  refine And.intro (fld_mk (ft := 0) Try.underlying14 rfl rfl (inf_of rfl) (by decide)) ?_
  refine And.intro (fld_mk (ft := 0) Try.underlying14 rfl rfl (inf_of rfl) (by decide)) ?_
  refine And.intro (fld_mk (ft := 0) Try.underlying18 rfl rfl (inf_of rfl) (by decide)) ?_
  refine And.intro (fld_mk (ft := 0) Try.underlying19 rfl rfl (inf_of rfl) (by decide)) ?_
  refine And.intro (fld_mk (ft := 0) Try.underlying23 rfl rfl (inf_of rfl) (by decide)) ?_
  refine And.intro (fld_mk (ft := 0) Try.underlying23 rfl rfl (inf_of rfl) (by decide)) ?_
  refine And.intro (fld_mk (ft := 0) Try.underlying23 rfl rfl (inf_of rfl) (by decide)) ?_
  refine And.intro (fld_mk (ft := 0) Try.underlying23 rfl rfl (inf_of rfl) (by decide)) ?_
  refine And.intro (fld_mk (ft := 0) Try.underlying23 rfl rfl (inf_of rfl) (by decide)) ?_
  refine And.intro (fld_mk (ft := 0) Try.underlying23 rfl rfl (inf_of rfl) (by decide)) ?_
  refine And.intro (fld_mk (ft := 0) Try.underlying23 rfl rfl (inf_of rfl) (by decide)) ?_
  refine And.intro (fld_mk (ft := 0) Try.underlying23 rfl rfl (inf_of rfl) (by decide)) ?_
  refine And.intro (fld_mk (ft := 0) Try.underlying23 rfl rfl (inf_of rfl) (by decide)) ?_
  refine And.intro (fld_mk (ft := 0) Try.underlying23 rfl rfl (inf_of rfl) (by decide)) ?_
  refine And.intro (fld_mk (ft := 0) Try.underlying24 rfl rfl (inf_of rfl) (by decide)) ?_
  refine And.intro (fld_mk (ft := 0) Try.underlying24 rfl rfl (inf_of rfl) (by decide)) ?_
  refine And.intro (fld_mk (ft := 0) Try.underlying24 rfl rfl (inf_of rfl) (by decide)) ?_
  refine And.intro (fld_mk (ft := 0) Try.underlying24 rfl rfl (inf_of rfl) (by decide)) ?_
  refine And.intro (fld_mk (ft := 0) Try.underlying24 rfl rfl (inf_of rfl) (by decide)) ?_
  refine And.intro (fld_mk (ft := 0) Try.underlying24 rfl rfl (inf_of rfl) (by decide)) ?_
  refine And.intro (fld_mk (ft := 0) Try.underlying24 rfl rfl (inf_of rfl) (by decide)) ?_
  refine And.intro (fld_mk (ft := 0) Try.underlying24 rfl rfl (inf_of rfl) (by decide)) ?_
  refine And.intro (fld_mk (ft := 0) Try.underlying24 rfl rfl (inf_of rfl) (by decide)) ?_
  refine And.intro (fld_mk (ft := 0) Try.underlying24 rfl rfl (inf_of rfl) (by decide)) ?_
  refine And.intro (fld_mk (ft := 0) Try.underlying32 rfl rfl (inf_of rfl) (by decide)) ?_
  refine And.intro (fld_mk (ft := 0) Try.underlying32 rfl rfl (inf_of rfl) (by decide)) ?_
  refine And.intro (fld_mk (ft := 0) Try.underlying32 rfl rfl (inf_of rfl) (by decide)) ?_
  refine And.intro (fld_mk (ft := 0) Try.underlying33 rfl rfl (inf_of rfl) (by decide)) ?_
  refine And.intro (fld_mk (ft := 0) Try.underlying33 rfl rfl (inf_of rfl) (by decide)) ?_
  refine And.intro (fld_mk (ft := 0) Try.underlying33 rfl rfl (inf_of rfl) (by decide)) ?_
  refine And.intro (fld_mk (ft := 0) Try.underlying48 rfl rfl (inf_of rfl) (by decide)) ?_
  refine And.intro (fld_mk (ft := 0) Try.underlying48 rfl rfl (inf_of rfl) (by decide)) ?_
  refine And.intro (fld_mk (ft := 0) Try.underlying49 rfl rfl (inf_of rfl) (by decide)) ?_
  refine And.intro (fld_mk (ft := 0) Try.underlying49 rfl rfl (inf_of rfl) (by decide)) ?_
  refine And.intro (fld_mk (ft := 0) Try.underlying55 rfl rfl (inf_of rfl) (by decide)) ?_
  refine And.intro (fld_mk (ft := 0) Try.underlying55 rfl rfl (inf_of rfl) (by decide)) ?_
  refine And.intro (fld_mk (ft := 0) Try.underlying55 rfl rfl (inf_of rfl) (by decide)) ?_
  refine And.intro (fld_mk (ft := 0) Try.underlying55 rfl rfl (inf_of rfl) (by decide)) ?_
  refine And.intro (fld_mk (ft := 0) Try.underlying55 rfl rfl (inf_of rfl) (by decide)) ?_
  refine And.intro (fld_mk (ft := 0) Try.underlying88 rfl rfl (inf_of rfl) (by decide)) ?_
  refine And.intro (fld_mk (ft := 0) Try.underlying88 rfl rfl (inf_of rfl) (by decide)) ?_
  refine And.intro (fld_mk (ft := 0) Try.underlying88 rfl rfl (inf_of rfl) (by decide)) ?_
  refine And.intro (fld_mk (ft := 0) Try.underlying88 rfl rfl (inf_of rfl) (by decide)) ?_
  refine And.intro (fld_mk (ft := 0) Try.underlying89 rfl rfl (inf_of rfl) (by decide)) ?_
  refine And.intro (fld_mk (ft := 0) Try.underlying89 rfl rfl (inf_of rfl) (by decide)) ?_
  refine And.intro (fld_mk (ft := 0) Try.underlying89 rfl rfl (inf_of rfl) (by decide)) ?_
  refine And.intro (fld_mk (ft := 0) Try.underlying89 rfl rfl (inf_of rfl) (by decide)) ?_
  refine And.intro (fld_mk (ft := 0) Try.underlying101 rfl rfl (inf_of rfl) (by decide)) ?_
  refine And.intro (fld_mk (ft := 0) Try.underlying101 rfl rfl (inf_of rfl) (by decide)) ?_
  refine And.intro (fld_mk (ft := 0) Try.underlying101 rfl rfl (inf_of rfl) (by decide)) ?_
  refine And.intro (fld_mk (ft := 0) Try.underlying101 rfl rfl (inf_of rfl) (by decide)) ?_
  refine And.intro (fld_mk (ft := 0) Try.underlying101 rfl rfl (inf_of rfl) (by decide)) ?_
  refine And.intro (fld_mk (ft := 0) Try.underlying101 rfl rfl (inf_of rfl) (by decide)) ?_
  refine And.intro (fld_mk (ft := 0) Try.underlying101 rfl rfl (inf_of rfl) (by decide)) ?_
  refine And.intro (fld_mk (ft := 0) Try.underlying101 rfl rfl (inf_of rfl) (by decide)) ?_
  refine And.intro (fld_mk (ft := 0) Try.underlying101 rfl rfl (inf_of rfl) (by decide)) ?_
  refine And.intro (fld_mk (ft := 0) Try.underlying101 rfl rfl (inf_of rfl) (by decide)) ?_
  refine And.intro (fld_mk (ft := 0) Try.underlying101 rfl rfl (inf_of rfl) (by decide)) ?_
  refine And.intro (fld_mk (ft := 0) Try.underlying102 rfl rfl (inf_of rfl) (by decide)) ?_
  refine And.intro (fld_mk (ft := 0) Try.underlying102 rfl rfl (inf_of rfl) (by decide)) ?_
  refine And.intro (fld_mk (ft := 0) Try.underlying102 rfl rfl (inf_of rfl) (by decide)) ?_
  refine And.intro (fld_mk (ft := 0) Try.underlying102 rfl rfl (inf_of rfl) (by decide)) ?_
  refine And.intro (fld_mk (ft := 0) Try.underlying102 rfl rfl (inf_of rfl) (by decide)) ?_
  refine And.intro (fld_mk (ft := 0) Try.underlying102 rfl rfl (inf_of rfl) (by decide)) ?_
  refine And.intro (fld_mk (ft := 0) Try.underlying102 rfl rfl (inf_of rfl) (by decide)) ?_
  refine And.intro (fld_mk (ft := 0) Try.underlying102 rfl rfl (inf_of rfl) (by decide)) ?_
  refine And.intro (fld_mk (ft := 0) Try.underlying102 rfl rfl (inf_of rfl) (by decide)) ?_
  refine And.intro (fld_mk (ft := 0) Try.underlying102 rfl rfl (inf_of rfl) (by decide)) ?_
  refine And.intro (fld_mk (ft := 0) Try.underlying102 rfl rfl (inf_of rfl) (by decide)) ?_
  exact trivial
theorem fld_of {t f off : Nat} (h : lkF flL t f = some off) : fieldIs Try.prog t f off := flL_ok.get h
noncomputable def ptL : List (Nat × Unit) := [(15, ()), (16, ()), (17, ()), (98, ())]
end Go.Proofs.ZtLe
