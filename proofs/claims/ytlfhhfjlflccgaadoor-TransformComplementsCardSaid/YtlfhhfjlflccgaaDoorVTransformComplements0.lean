/- What the functions that TransformComplements calls compute: printed out of the interpreter's normal forms (wip/vi/vigen.py) and proved. -/
import Derived.Test.YtlfhhfjlflccgaaDoorVi2
import Derived.Test.YtlfhhfjlflccgaaDoorProg
set_option linter.unusedVariables false
set_option linter.unusedSimpArgs false
set_option maxRecDepth 100000
set_option maxHeartbeats 4000000
noncomputable section
namespace Go.VI
@[reducible] def BA := ByteArray
end Go.VI
namespace Go.VI
open Go Go.Proofs
def tys : Tys := [(1, .one none (.junk)),
 (2, .one (some (.int .i64)) (.d (.int .i64) (0 : Int))),
 (3, .one (some (.int .i64)) (.d (.int .i64) (0 : Int))),
 (4, .one (some (.bool)) (.d .bool false)),
 (5, .one (some (.int .u8)) (.d (.int .u8) (0 : Int))),
 (6, .one (some (.int .u8)) (.d (.int .u8) (0 : Int))),
 (7, .agg [(0, 2), (1, 3), (2, 4), (3, 6)] 4 (some (.st (.pr (.int .i64) (.pr (.int .i64) (.pr (.bool) (.int .u8)))))) [.d (.int .i64) (0 : Int), .d (.int .i64) (0 : Int), .d .bool false, .d (.int .u8) (0 : Int)]),
 (8, .agg [(0, 2), (1, 3), (2, 4), (3, 6)] 4 (some (.st (.pr (.int .i64) (.pr (.int .i64) (.pr (.bool) (.int .u8)))))) [.d (.int .i64) (0 : Int), .d (.int .i64) (0 : Int), .d .bool false, .d (.int .u8) (0 : Int)]),
 (9, .one (some (.str)) (.d .str ⟨#[]⟩)),
 (10, .one (some (.str)) (.d .str ⟨#[]⟩)),
 (11, .one (some (.str)) (.d .str ⟨#[]⟩)),
 (12, .one (some (.int .u64)) (.d (.int .u64) (0 : Int))),
 (15, .one none (.np)),
 (16, .one none (.np)),
 (17, .one none (.np)),
 (18, .agg [(0, 17)] 1 none [.np]),
 (19, .agg [(0, 17)] 1 none [.np]),
 (21, .one (some (.int .i32)) (.d (.int .i32) (0 : Int))),
 (22, .one (some (.sl (.st (.pr (.str) (.pr (.int .i64) (.int .i64)))))) (.nil (.st (.pr (.str) (.pr (.int .i64) (.int .i64)))))),
 (23, .one (some (.sl (.st (.pr (.str) (.pr (.sl (.st (.pr (.int .i64) (.int .i64)))) (.pr (.sl (.st (.pr (.int .i64) (.int .i64)))) (.pr (.sl (.st (.pr (.int .i64) (.int .i64)))) (.int .i64)))))))) (.nil (.st (.pr (.str) (.pr (.sl (.st (.pr (.int .i64) (.int .i64)))) (.pr (.sl (.st (.pr (.int .i64) (.int .i64)))) (.pr (.sl (.st (.pr (.int .i64) (.int .i64)))) (.int .i64)))))))),
 (24, .agg [(0, 9), (1, 22), (2, 23)] 3 (some (.st (.pr (.str) (.pr (.sl (.st (.pr (.str) (.pr (.int .i64) (.int .i64))))) (.sl (.st (.pr (.str) (.pr (.sl (.st (.pr (.int .i64) (.int .i64)))) (.pr (.sl (.st (.pr (.int .i64) (.int .i64)))) (.pr (.sl (.st (.pr (.int .i64) (.int .i64)))) (.int .i64))))))))))) [.d .str ⟨#[]⟩, .nil (.st (.pr (.str) (.pr (.int .i64) (.int .i64)))), .nil (.st (.pr (.str) (.pr (.sl (.st (.pr (.int .i64) (.int .i64)))) (.pr (.sl (.st (.pr (.int .i64) (.int .i64)))) (.pr (.sl (.st (.pr (.int .i64) (.int .i64)))) (.int .i64))))))]),
 (25, .agg [(0, 9), (1, 22), (2, 23)] 3 (some (.st (.pr (.str) (.pr (.sl (.st (.pr (.str) (.pr (.int .i64) (.int .i64))))) (.sl (.st (.pr (.str) (.pr (.sl (.st (.pr (.int .i64) (.int .i64)))) (.pr (.sl (.st (.pr (.int .i64) (.int .i64)))) (.pr (.sl (.st (.pr (.int .i64) (.int .i64)))) (.int .i64))))))))))) [.d .str ⟨#[]⟩, .nil (.st (.pr (.str) (.pr (.int .i64) (.int .i64)))), .nil (.st (.pr (.str) (.pr (.sl (.st (.pr (.int .i64) (.int .i64)))) (.pr (.sl (.st (.pr (.int .i64) (.int .i64)))) (.pr (.sl (.st (.pr (.int .i64) (.int .i64)))) (.int .i64))))))]),
 (26, .one (some (.sl (.int .i64))) (.nil (.int .i64))),
 (28, .one none (.junk)),
 (29, .one none (.junk)),
 (30, .one (some (.int .i64)) (.d (.int .i64) (0 : Int))),
 (32, .one none (.junk)),
 (34, .one none (.junk)),
 (35, .one none (.junk)),
 (36, .one none (.junk)),
 (37, .one none (.junk)),
 (38, .one none (.junk)),
 (39, .one (some (.int .u64)) (.d (.int .u64) (0 : Int))),
 (40, .arr 39 2 2 (some (.st (.pr (.int .u64) (.int .u64)))) [.d (.int .u64) (0 : Int), .d (.int .u64) (0 : Int)]),
 (41, .one none (.junk)),
 (42, .one none (.junk)),
 (43, .one none (.junk)),
 (44, .one none (.junk)),
 (45, .one none (.junk)),
 (46, .agg [(0, 9), (1, 3), (2, 3)] 3 (some (.st (.pr (.str) (.pr (.int .i64) (.int .i64))))) [.d .str ⟨#[]⟩, .d (.int .i64) (0 : Int), .d (.int .i64) (0 : Int)]),
 (47, .agg [(0, 9), (1, 3), (2, 3)] 3 (some (.st (.pr (.str) (.pr (.int .i64) (.int .i64))))) [.d .str ⟨#[]⟩, .d (.int .i64) (0 : Int), .d (.int .i64) (0 : Int)]),
 (48, .one none (.junk)),
 (49, .one (some (.sl (.st (.pr (.int .i64) (.int .i64))))) (.nil (.st (.pr (.int .i64) (.int .i64))))),
 (50, .agg [(0, 9), (1, 49), (2, 49), (3, 49), (4, 3)] 5 (some (.st (.pr (.str) (.pr (.sl (.st (.pr (.int .i64) (.int .i64)))) (.pr (.sl (.st (.pr (.int .i64) (.int .i64)))) (.pr (.sl (.st (.pr (.int .i64) (.int .i64)))) (.int .i64))))))) [.d .str ⟨#[]⟩, .nil (.st (.pr (.int .i64) (.int .i64))), .nil (.st (.pr (.int .i64) (.int .i64))), .nil (.st (.pr (.int .i64) (.int .i64))), .d (.int .i64) (0 : Int)]),
 (51, .agg [(0, 9), (1, 49), (2, 49), (3, 49), (4, 3)] 5 (some (.st (.pr (.str) (.pr (.sl (.st (.pr (.int .i64) (.int .i64)))) (.pr (.sl (.st (.pr (.int .i64) (.int .i64)))) (.pr (.sl (.st (.pr (.int .i64) (.int .i64)))) (.int .i64))))))) [.d .str ⟨#[]⟩, .nil (.st (.pr (.int .i64) (.int .i64))), .nil (.st (.pr (.int .i64) (.int .i64))), .nil (.st (.pr (.int .i64) (.int .i64))), .d (.int .i64) (0 : Int)]),
 (52, .one none (.junk)),
 (53, .one none (.junk)),
 (54, .one none (.junk)),
 (55, .agg [(0, 3), (1, 3)] 2 (some (.st (.pr (.int .i64) (.int .i64)))) [.d (.int .i64) (0 : Int), .d (.int .i64) (0 : Int)]),
 (56, .agg [(0, 3), (1, 3)] 2 (some (.st (.pr (.int .i64) (.int .i64)))) [.d (.int .i64) (0 : Int), .d (.int .i64) (0 : Int)]),
 (57, .one none (.junk)),
 (58, .one none (.junk)),
 (59, .one none (.junk)),
 (60, .one none (.junk)),
 (61, .one none (.junk)),
 (62, .one none (.junk)),
 (63, .one (some (.sl (.sl (.st (.pr (.int .i64) (.int .i64)))))) (.nil (.sl (.st (.pr (.int .i64) (.int .i64)))))),
 (64, .one none (.junk)),
 (65, .one none (.junk)),
 (66, .one none (.junk)),
 (67, .one none (.junk)),
 (68, .one none (.junk)),
 (69, .agg [(0, 30), (1, 3)] 2 (some (.st (.pr (.int .i64) (.int .i64)))) [.d (.int .i64) (0 : Int), .d (.int .i64) (0 : Int)]),
 (70, .agg [(0, 30), (1, 3)] 2 (some (.st (.pr (.int .i64) (.int .i64)))) [.d (.int .i64) (0 : Int), .d (.int .i64) (0 : Int)]),
 (71, .one none (.junk)),
 (72, .one none (.junk)),
 (73, .one none (.junk)),
 (74, .one none (.junk)),
 (75, .one none (.junk)),
 (76, .one none (.junk)),
 (77, .one none (.junk)),
 (78, .one none (.junk)),
 (79, .one none (.junk)),
 (80, .one (some (.sl (.int .u8))) (.nil (.int .u8))),
 (81, .one (some (.sl (.str))) (.nil (.str))),
 (82, .one none (.junk)),
 (83, .one none (.junk)),
 (84, .one none (.junk)),
 (85, .one (some (.int .u64)) (.d (.int .u64) (0 : Int))),
 (86, .one none (.junk)),
 (87, .one none (.junk)),
 (88, .one none (.junk)),
 (89, .one none (.junk)),
 (90, .one none (.junk)),
 (91, .one none (.junk)),
 (92, .one none (.junk)),
 (93, .one none (.junk)),
 (94, .one none (.junk)),
 (95, .one none (.junk)),
 (96, .one none (.junk)),
 (97, .arr 5 24 24 (some (.st (.pr (.int .u8) (.pr (.int .u8) (.pr (.int .u8) (.pr (.int .u8) (.pr (.int .u8) (.pr (.int .u8) (.pr (.int .u8) (.pr (.int .u8) (.pr (.int .u8) (.pr (.int .u8) (.pr (.int .u8) (.pr (.int .u8) (.pr (.int .u8) (.pr (.int .u8) (.pr (.int .u8) (.pr (.int .u8) (.pr (.int .u8) (.pr (.int .u8) (.pr (.int .u8) (.pr (.int .u8) (.pr (.int .u8) (.pr (.int .u8) (.pr (.int .u8) (.int .u8)))))))))))))))))))))))))) [.d (.int .u8) (0 : Int), .d (.int .u8) (0 : Int), .d (.int .u8) (0 : Int), .d (.int .u8) (0 : Int), .d (.int .u8) (0 : Int), .d (.int .u8) (0 : Int), .d (.int .u8) (0 : Int), .d (.int .u8) (0 : Int), .d (.int .u8) (0 : Int), .d (.int .u8) (0 : Int), .d (.int .u8) (0 : Int), .d (.int .u8) (0 : Int), .d (.int .u8) (0 : Int), .d (.int .u8) (0 : Int), .d (.int .u8) (0 : Int), .d (.int .u8) (0 : Int), .d (.int .u8) (0 : Int), .d (.int .u8) (0 : Int), .d (.int .u8) (0 : Int), .d (.int .u8) (0 : Int), .d (.int .u8) (0 : Int), .d (.int .u8) (0 : Int), .d (.int .u8) (0 : Int), .d (.int .u8) (0 : Int)]),
 (98, .one none (.junk)),
 (99, .one none (.junk)),
 (101, .one none (.junk)),
 (102, .one none (.junk)),
 (103, .one none (.junk)),
 (104, .arr 39 20 20 (some (.st (.pr (.int .u64) (.pr (.int .u64) (.pr (.int .u64) (.pr (.int .u64) (.pr (.int .u64) (.pr (.int .u64) (.pr (.int .u64) (.pr (.int .u64) (.pr (.int .u64) (.pr (.int .u64) (.pr (.int .u64) (.pr (.int .u64) (.pr (.int .u64) (.pr (.int .u64) (.pr (.int .u64) (.pr (.int .u64) (.pr (.int .u64) (.pr (.int .u64) (.pr (.int .u64) (.int .u64)))))))))))))))))))))) [.d (.int .u64) (0 : Int), .d (.int .u64) (0 : Int), .d (.int .u64) (0 : Int), .d (.int .u64) (0 : Int), .d (.int .u64) (0 : Int), .d (.int .u64) (0 : Int), .d (.int .u64) (0 : Int), .d (.int .u64) (0 : Int), .d (.int .u64) (0 : Int), .d (.int .u64) (0 : Int), .d (.int .u64) (0 : Int), .d (.int .u64) (0 : Int), .d (.int .u64) (0 : Int), .d (.int .u64) (0 : Int), .d (.int .u64) (0 : Int), .d (.int .u64) (0 : Int), .d (.int .u64) (0 : Int), .d (.int .u64) (0 : Int), .d (.int .u64) (0 : Int), .d (.int .u64) (0 : Int)]),
 (105, .one (some (.int .u32)) (.d (.int .u32) (0 : Int))),
 (106, .arr 5 65 65 (some (.st (.pr (.int .u8) (.pr (.int .u8) (.pr (.int .u8) (.pr (.int .u8) (.pr (.int .u8) (.pr (.int .u8) (.pr (.int .u8) (.pr (.int .u8) (.pr (.int .u8) (.pr (.int .u8) (.pr (.int .u8) (.pr (.int .u8) (.pr (.int .u8) (.pr (.int .u8) (.pr (.int .u8) (.pr (.int .u8) (.pr (.int .u8) (.pr (.int .u8) (.pr (.int .u8) (.pr (.int .u8) (.pr (.int .u8) (.pr (.int .u8) (.pr (.int .u8) (.pr (.int .u8) (.pr (.int .u8) (.pr (.int .u8) (.pr (.int .u8) (.pr (.int .u8) (.pr (.int .u8) (.pr (.int .u8) (.pr (.int .u8) (.pr (.int .u8) (.pr (.int .u8) (.pr (.int .u8) (.pr (.int .u8) (.pr (.int .u8) (.pr (.int .u8) (.pr (.int .u8) (.pr (.int .u8) (.pr (.int .u8) (.pr (.int .u8) (.pr (.int .u8) (.pr (.int .u8) (.pr (.int .u8) (.pr (.int .u8) (.pr (.int .u8) (.pr (.int .u8) (.pr (.int .u8) (.pr (.int .u8) (.pr (.int .u8) (.pr (.int .u8) (.pr (.int .u8) (.pr (.int .u8) (.pr (.int .u8) (.pr (.int .u8) (.pr (.int .u8) (.pr (.int .u8) (.pr (.int .u8) (.pr (.int .u8) (.pr (.int .u8) (.pr (.int .u8) (.pr (.int .u8) (.pr (.int .u8) (.pr (.int .u8) (.int .u8))))))))))))))))))))))))))))))))))))))))))))))))))))))))))))))))))) [.d (.int .u8) (0 : Int), .d (.int .u8) (0 : Int), .d (.int .u8) (0 : Int), .d (.int .u8) (0 : Int), .d (.int .u8) (0 : Int), .d (.int .u8) (0 : Int), .d (.int .u8) (0 : Int), .d (.int .u8) (0 : Int), .d (.int .u8) (0 : Int), .d (.int .u8) (0 : Int), .d (.int .u8) (0 : Int), .d (.int .u8) (0 : Int), .d (.int .u8) (0 : Int), .d (.int .u8) (0 : Int), .d (.int .u8) (0 : Int), .d (.int .u8) (0 : Int), .d (.int .u8) (0 : Int), .d (.int .u8) (0 : Int), .d (.int .u8) (0 : Int), .d (.int .u8) (0 : Int), .d (.int .u8) (0 : Int), .d (.int .u8) (0 : Int), .d (.int .u8) (0 : Int), .d (.int .u8) (0 : Int), .d (.int .u8) (0 : Int), .d (.int .u8) (0 : Int), .d (.int .u8) (0 : Int), .d (.int .u8) (0 : Int), .d (.int .u8) (0 : Int), .d (.int .u8) (0 : Int), .d (.int .u8) (0 : Int), .d (.int .u8) (0 : Int), .d (.int .u8) (0 : Int), .d (.int .u8) (0 : Int), .d (.int .u8) (0 : Int), .d (.int .u8) (0 : Int), .d (.int .u8) (0 : Int), .d (.int .u8) (0 : Int), .d (.int .u8) (0 : Int), .d (.int .u8) (0 : Int), .d (.int .u8) (0 : Int), .d (.int .u8) (0 : Int), .d (.int .u8) (0 : Int), .d (.int .u8) (0 : Int), .d (.int .u8) (0 : Int), .d (.int .u8) (0 : Int), .d (.int .u8) (0 : Int), .d (.int .u8) (0 : Int), .d (.int .u8) (0 : Int), .d (.int .u8) (0 : Int), .d (.int .u8) (0 : Int), .d (.int .u8) (0 : Int), .d (.int .u8) (0 : Int), .d (.int .u8) (0 : Int), .d (.int .u8) (0 : Int), .d (.int .u8) (0 : Int), .d (.int .u8) (0 : Int), .d (.int .u8) (0 : Int), .d (.int .u8) (0 : Int), .d (.int .u8) (0 : Int), .d (.int .u8) (0 : Int), .d (.int .u8) (0 : Int), .d (.int .u8) (0 : Int), .d (.int .u8) (0 : Int), .d (.int .u8) (0 : Int)]),
 (107, .one none (.junk)),
 (108, .one none (.junk)),
 (109, .one none (.junk)),
 (110, .arr 5 32 32 (some (.st (.pr (.int .u8) (.pr (.int .u8) (.pr (.int .u8) (.pr (.int .u8) (.pr (.int .u8) (.pr (.int .u8) (.pr (.int .u8) (.pr (.int .u8) (.pr (.int .u8) (.pr (.int .u8) (.pr (.int .u8) (.pr (.int .u8) (.pr (.int .u8) (.pr (.int .u8) (.pr (.int .u8) (.pr (.int .u8) (.pr (.int .u8) (.pr (.int .u8) (.pr (.int .u8) (.pr (.int .u8) (.pr (.int .u8) (.pr (.int .u8) (.pr (.int .u8) (.pr (.int .u8) (.pr (.int .u8) (.pr (.int .u8) (.pr (.int .u8) (.pr (.int .u8) (.pr (.int .u8) (.pr (.int .u8) (.pr (.int .u8) (.int .u8)))))))))))))))))))))))))))))))))) [.d (.int .u8) (0 : Int), .d (.int .u8) (0 : Int), .d (.int .u8) (0 : Int), .d (.int .u8) (0 : Int), .d (.int .u8) (0 : Int), .d (.int .u8) (0 : Int), .d (.int .u8) (0 : Int), .d (.int .u8) (0 : Int), .d (.int .u8) (0 : Int), .d (.int .u8) (0 : Int), .d (.int .u8) (0 : Int), .d (.int .u8) (0 : Int), .d (.int .u8) (0 : Int), .d (.int .u8) (0 : Int), .d (.int .u8) (0 : Int), .d (.int .u8) (0 : Int), .d (.int .u8) (0 : Int), .d (.int .u8) (0 : Int), .d (.int .u8) (0 : Int), .d (.int .u8) (0 : Int), .d (.int .u8) (0 : Int), .d (.int .u8) (0 : Int), .d (.int .u8) (0 : Int), .d (.int .u8) (0 : Int), .d (.int .u8) (0 : Int), .d (.int .u8) (0 : Int), .d (.int .u8) (0 : Int), .d (.int .u8) (0 : Int), .d (.int .u8) (0 : Int), .d (.int .u8) (0 : Int), .d (.int .u8) (0 : Int), .d (.int .u8) (0 : Int)]),
 (111, .arr 5 64 64 (some (.st (.pr (.int .u8) (.pr (.int .u8) (.pr (.int .u8) (.pr (.int .u8) (.pr (.int .u8) (.pr (.int .u8) (.pr (.int .u8) (.pr (.int .u8) (.pr (.int .u8) (.pr (.int .u8) (.pr (.int .u8) (.pr (.int .u8) (.pr (.int .u8) (.pr (.int .u8) (.pr (.int .u8) (.pr (.int .u8) (.pr (.int .u8) (.pr (.int .u8) (.pr (.int .u8) (.pr (.int .u8) (.pr (.int .u8) (.pr (.int .u8) (.pr (.int .u8) (.pr (.int .u8) (.pr (.int .u8) (.pr (.int .u8) (.pr (.int .u8) (.pr (.int .u8) (.pr (.int .u8) (.pr (.int .u8) (.pr (.int .u8) (.pr (.int .u8) (.pr (.int .u8) (.pr (.int .u8) (.pr (.int .u8) (.pr (.int .u8) (.pr (.int .u8) (.pr (.int .u8) (.pr (.int .u8) (.pr (.int .u8) (.pr (.int .u8) (.pr (.int .u8) (.pr (.int .u8) (.pr (.int .u8) (.pr (.int .u8) (.pr (.int .u8) (.pr (.int .u8) (.pr (.int .u8) (.pr (.int .u8) (.pr (.int .u8) (.pr (.int .u8) (.pr (.int .u8) (.pr (.int .u8) (.pr (.int .u8) (.pr (.int .u8) (.pr (.int .u8) (.pr (.int .u8) (.pr (.int .u8) (.pr (.int .u8) (.pr (.int .u8) (.pr (.int .u8) (.pr (.int .u8) (.pr (.int .u8) (.int .u8)))))))))))))))))))))))))))))))))))))))))))))))))))))))))))))))))) [.d (.int .u8) (0 : Int), .d (.int .u8) (0 : Int), .d (.int .u8) (0 : Int), .d (.int .u8) (0 : Int), .d (.int .u8) (0 : Int), .d (.int .u8) (0 : Int), .d (.int .u8) (0 : Int), .d (.int .u8) (0 : Int), .d (.int .u8) (0 : Int), .d (.int .u8) (0 : Int), .d (.int .u8) (0 : Int), .d (.int .u8) (0 : Int), .d (.int .u8) (0 : Int), .d (.int .u8) (0 : Int), .d (.int .u8) (0 : Int), .d (.int .u8) (0 : Int), .d (.int .u8) (0 : Int), .d (.int .u8) (0 : Int), .d (.int .u8) (0 : Int), .d (.int .u8) (0 : Int), .d (.int .u8) (0 : Int), .d (.int .u8) (0 : Int), .d (.int .u8) (0 : Int), .d (.int .u8) (0 : Int), .d (.int .u8) (0 : Int), .d (.int .u8) (0 : Int), .d (.int .u8) (0 : Int), .d (.int .u8) (0 : Int), .d (.int .u8) (0 : Int), .d (.int .u8) (0 : Int), .d (.int .u8) (0 : Int), .d (.int .u8) (0 : Int), .d (.int .u8) (0 : Int), .d (.int .u8) (0 : Int), .d (.int .u8) (0 : Int), .d (.int .u8) (0 : Int), .d (.int .u8) (0 : Int), .d (.int .u8) (0 : Int), .d (.int .u8) (0 : Int), .d (.int .u8) (0 : Int), .d (.int .u8) (0 : Int), .d (.int .u8) (0 : Int), .d (.int .u8) (0 : Int), .d (.int .u8) (0 : Int), .d (.int .u8) (0 : Int), .d (.int .u8) (0 : Int), .d (.int .u8) (0 : Int), .d (.int .u8) (0 : Int), .d (.int .u8) (0 : Int), .d (.int .u8) (0 : Int), .d (.int .u8) (0 : Int), .d (.int .u8) (0 : Int), .d (.int .u8) (0 : Int), .d (.int .u8) (0 : Int), .d (.int .u8) (0 : Int), .d (.int .u8) (0 : Int), .d (.int .u8) (0 : Int), .d (.int .u8) (0 : Int), .d (.int .u8) (0 : Int), .d (.int .u8) (0 : Int), .d (.int .u8) (0 : Int), .d (.int .u8) (0 : Int), .d (.int .u8) (0 : Int), .d (.int .u8) (0 : Int)]),
 (112, .one none (.junk)),
 (113, .agg [(0, 17), (1, 17), (2, 17), (3, 9)] 4 none [.np, .np, .np, .d .str ⟨#[]⟩]),
 (114, .agg [(0, 17), (1, 17), (2, 17), (3, 9)] 4 none [.np, .np, .np, .d .str ⟨#[]⟩]),
 (115, .arr 16 0 0 none []),
 (118, .one none (.junk)),
 (119, .one (some (.int .u8)) (.d (.int .u8) (0 : Int))),
 (120, .one (some (.int .u8)) (.d (.int .u8) (0 : Int))),
 (121, .one none (.junk)),
 (122, .one none (.np)),
 (123, .one (some (.int .i32)) (.d (.int .i32) (0 : Int))),
 (124, .one (some (.int .i32)) (.d (.int .i32) (0 : Int))),
 (125, .agg [(0, 12), (1, 12), (2, 105), (3, 119), (4, 5), (5, 5), (6, 120), (7, 121), (8, 122), (9, 123), (10, 124)] 11 none [.d (.int .u64) (0 : Int), .d (.int .u64) (0 : Int), .d (.int .u32) (0 : Int), .d (.int .u8) (0 : Int), .d (.int .u8) (0 : Int), .d (.int .u8) (0 : Int), .d (.int .u8) (0 : Int), .junk, .np, .d (.int .i32) (0 : Int), .d (.int .i32) (0 : Int)]),
 (126, .agg [(0, 12), (1, 12), (2, 105), (3, 119), (4, 5), (5, 5), (6, 120), (7, 121), (8, 122), (9, 123), (10, 124)] 11 none [.d (.int .u64) (0 : Int), .d (.int .u64) (0 : Int), .d (.int .u32) (0 : Int), .d (.int .u8) (0 : Int), .d (.int .u8) (0 : Int), .d (.int .u8) (0 : Int), .d (.int .u8) (0 : Int), .junk, .np, .d (.int .i32) (0 : Int), .d (.int .i32) (0 : Int)]),
 (127, .one none (.junk))]
@[reducible] def P : Program := Tryd.prog
def tysD : Tys := [(1, .one none (.junk)),
 (2, .one (some (.int .i64)) (.d (.int .i64) (0 : Int))),
 (3, .one (some (.int .i64)) (.d (.int .i64) (0 : Int))),
 (4, .one (some (.bool)) (.d .bool false)),
 (5, .one (some (.int .u8)) (.d (.int .u8) (0 : Int))),
 (6, .one (some (.int .u8)) (.d (.int .u8) (0 : Int))),
 (7, .agg [(0, 2), (1, 3), (2, 4), (3, 6)] 4 (some (.st (.pr (.int .i64) (.pr (.int .i64) (.pr (.bool) (.int .u8)))))) [.d (.int .i64) (0 : Int), .d (.int .i64) (0 : Int), .d .bool false, .d (.int .u8) (0 : Int)]),
 (8, .agg [(0, 2), (1, 3), (2, 4), (3, 6)] 4 (some (.st (.pr (.int .i64) (.pr (.int .i64) (.pr (.bool) (.int .u8)))))) [.d (.int .i64) (0 : Int), .d (.int .i64) (0 : Int), .d .bool false, .d (.int .u8) (0 : Int)]),
 (9, .one (some (.str)) (.d .str ⟨#[]⟩)),
 (10, .one (some (.str)) (.d .str ⟨#[]⟩)),
 (11, .one (some (.str)) (.d .str ⟨#[]⟩)),
 (12, .one (some (.int .u64)) (.d (.int .u64) (0 : Int))),
 (15, .one none (.np)),
 (16, .one none (.np)),
 (17, .one none (.np)),
 (18, .agg [(0, 17)] 1 none [.np]),
 (19, .agg [(0, 17)] 1 none [.np]),
 (21, .one (some (.int .i32)) (.d (.int .i32) (0 : Int))),
 (22, .one (some (.sl (.st (.pr (.str) (.pr (.int .i64) (.int .i64)))))) (.nil (.st (.pr (.str) (.pr (.int .i64) (.int .i64)))))),
 (23, .one (some (.sl (.st (.pr (.str) (.pr (.sl (.st (.pr (.int .i64) (.int .i64)))) (.pr (.sl (.st (.pr (.int .i64) (.int .i64)))) (.pr (.sl (.st (.pr (.int .i64) (.int .i64)))) (.int .i64)))))))) (.nil (.st (.pr (.str) (.pr (.sl (.st (.pr (.int .i64) (.int .i64)))) (.pr (.sl (.st (.pr (.int .i64) (.int .i64)))) (.pr (.sl (.st (.pr (.int .i64) (.int .i64)))) (.int .i64)))))))),
 (24, .agg [(0, 9), (1, 22), (2, 23)] 3 (some (.st (.pr (.str) (.pr (.sl (.st (.pr (.str) (.pr (.int .i64) (.int .i64))))) (.sl (.st (.pr (.str) (.pr (.sl (.st (.pr (.int .i64) (.int .i64)))) (.pr (.sl (.st (.pr (.int .i64) (.int .i64)))) (.pr (.sl (.st (.pr (.int .i64) (.int .i64)))) (.int .i64))))))))))) [.d .str ⟨#[]⟩, .nil (.st (.pr (.str) (.pr (.int .i64) (.int .i64)))), .nil (.st (.pr (.str) (.pr (.sl (.st (.pr (.int .i64) (.int .i64)))) (.pr (.sl (.st (.pr (.int .i64) (.int .i64)))) (.pr (.sl (.st (.pr (.int .i64) (.int .i64)))) (.int .i64))))))]),
 (25, .agg [(0, 9), (1, 22), (2, 23)] 3 (some (.st (.pr (.str) (.pr (.sl (.st (.pr (.str) (.pr (.int .i64) (.int .i64))))) (.sl (.st (.pr (.str) (.pr (.sl (.st (.pr (.int .i64) (.int .i64)))) (.pr (.sl (.st (.pr (.int .i64) (.int .i64)))) (.pr (.sl (.st (.pr (.int .i64) (.int .i64)))) (.int .i64))))))))))) [.d .str ⟨#[]⟩, .nil (.st (.pr (.str) (.pr (.int .i64) (.int .i64)))), .nil (.st (.pr (.str) (.pr (.sl (.st (.pr (.int .i64) (.int .i64)))) (.pr (.sl (.st (.pr (.int .i64) (.int .i64)))) (.pr (.sl (.st (.pr (.int .i64) (.int .i64)))) (.int .i64))))))]),
 (26, .one (some (.sl (.int .i64))) (.nil (.int .i64))),
 (28, .one none (.junk)),
 (29, .one none (.junk)),
 (30, .one (some (.int .i64)) (.d (.int .i64) (0 : Int))),
 (32, .one none (.junk)),
 (34, .one none (.junk)),
 (35, .one none (.junk)),
 (36, .one none (.junk)),
 (37, .one none (.junk)),
 (38, .one none (.junk)),
 (39, .one (some (.int .u64)) (.d (.int .u64) (0 : Int))),
 (40, .arr 39 2 2 (some (.st (.pr (.int .u64) (.int .u64)))) [.d (.int .u64) (0 : Int), .d (.int .u64) (0 : Int)]),
 (41, .one none (.junk)),
 (42, .one none (.junk)),
 (43, .one none (.junk)),
 (44, .one none (.junk)),
 (45, .one none (.junk)),
 (46, .agg [(0, 9), (1, 3), (2, 3)] 3 (some (.st (.pr (.str) (.pr (.int .i64) (.int .i64))))) [.d .str ⟨#[]⟩, .d (.int .i64) (0 : Int), .d (.int .i64) (0 : Int)]),
 (47, .agg [(0, 9), (1, 3), (2, 3)] 3 (some (.st (.pr (.str) (.pr (.int .i64) (.int .i64))))) [.d .str ⟨#[]⟩, .d (.int .i64) (0 : Int), .d (.int .i64) (0 : Int)]),
 (48, .one none (.junk)),
 (49, .one (some (.sl (.st (.pr (.int .i64) (.int .i64))))) (.nil (.st (.pr (.int .i64) (.int .i64))))),
 (50, .agg [(0, 9), (1, 49), (2, 49), (3, 49), (4, 3)] 5 (some (.st (.pr (.str) (.pr (.sl (.st (.pr (.int .i64) (.int .i64)))) (.pr (.sl (.st (.pr (.int .i64) (.int .i64)))) (.pr (.sl (.st (.pr (.int .i64) (.int .i64)))) (.int .i64))))))) [.d .str ⟨#[]⟩, .nil (.st (.pr (.int .i64) (.int .i64))), .nil (.st (.pr (.int .i64) (.int .i64))), .nil (.st (.pr (.int .i64) (.int .i64))), .d (.int .i64) (0 : Int)]),
 (51, .agg [(0, 9), (1, 49), (2, 49), (3, 49), (4, 3)] 5 (some (.st (.pr (.str) (.pr (.sl (.st (.pr (.int .i64) (.int .i64)))) (.pr (.sl (.st (.pr (.int .i64) (.int .i64)))) (.pr (.sl (.st (.pr (.int .i64) (.int .i64)))) (.int .i64))))))) [.d .str ⟨#[]⟩, .nil (.st (.pr (.int .i64) (.int .i64))), .nil (.st (.pr (.int .i64) (.int .i64))), .nil (.st (.pr (.int .i64) (.int .i64))), .d (.int .i64) (0 : Int)]),
 (52, .one none (.junk)),
 (53, .one none (.junk)),
 (54, .one none (.junk)),
 (55, .agg [(0, 3), (1, 3)] 2 (some (.st (.pr (.int .i64) (.int .i64)))) [.d (.int .i64) (0 : Int), .d (.int .i64) (0 : Int)]),
 (56, .agg [(0, 3), (1, 3)] 2 (some (.st (.pr (.int .i64) (.int .i64)))) [.d (.int .i64) (0 : Int), .d (.int .i64) (0 : Int)]),
 (57, .one none (.junk)),
 (58, .one none (.junk)),
 (59, .one none (.junk)),
 (60, .one none (.junk)),
 (61, .one none (.junk)),
 (62, .one none (.junk)),
 (63, .one (some (.sl (.sl (.st (.pr (.int .i64) (.int .i64)))))) .nil0),
 (64, .one none (.junk)),
 (65, .one none (.junk)),
 (66, .one none (.junk)),
 (67, .one none (.junk)),
 (68, .one none (.junk)),
 (69, .agg [(0, 30), (1, 3)] 2 (some (.st (.pr (.int .i64) (.int .i64)))) [.d (.int .i64) (0 : Int), .d (.int .i64) (0 : Int)]),
 (70, .agg [(0, 30), (1, 3)] 2 (some (.st (.pr (.int .i64) (.int .i64)))) [.d (.int .i64) (0 : Int), .d (.int .i64) (0 : Int)]),
 (71, .one none (.junk)),
 (72, .one none (.junk)),
 (73, .one none (.junk)),
 (74, .one none (.junk)),
 (75, .one none (.junk)),
 (76, .one none (.junk)),
 (77, .one none (.junk)),
 (78, .one none (.junk)),
 (79, .one none (.junk)),
 (80, .one (some (.sl (.int .u8))) (.nil (.int .u8))),
 (81, .one (some (.sl (.str))) (.nil (.str))),
 (82, .one none (.junk)),
 (83, .one none (.junk)),
 (84, .one none (.junk)),
 (85, .one (some (.int .u64)) (.d (.int .u64) (0 : Int))),
 (86, .one none (.junk)),
 (87, .one none (.junk)),
 (88, .one none (.junk)),
 (89, .one none (.junk)),
 (90, .one none (.junk)),
 (91, .one none (.junk)),
 (92, .one none (.junk)),
 (93, .one none (.junk)),
 (94, .one none (.junk)),
 (95, .one none (.junk)),
 (96, .one none (.junk)),
 (97, .arr 5 24 24 (some (.st (.pr (.int .u8) (.pr (.int .u8) (.pr (.int .u8) (.pr (.int .u8) (.pr (.int .u8) (.pr (.int .u8) (.pr (.int .u8) (.pr (.int .u8) (.pr (.int .u8) (.pr (.int .u8) (.pr (.int .u8) (.pr (.int .u8) (.pr (.int .u8) (.pr (.int .u8) (.pr (.int .u8) (.pr (.int .u8) (.pr (.int .u8) (.pr (.int .u8) (.pr (.int .u8) (.pr (.int .u8) (.pr (.int .u8) (.pr (.int .u8) (.pr (.int .u8) (.int .u8)))))))))))))))))))))))))) [.d (.int .u8) (0 : Int), .d (.int .u8) (0 : Int), .d (.int .u8) (0 : Int), .d (.int .u8) (0 : Int), .d (.int .u8) (0 : Int), .d (.int .u8) (0 : Int), .d (.int .u8) (0 : Int), .d (.int .u8) (0 : Int), .d (.int .u8) (0 : Int), .d (.int .u8) (0 : Int), .d (.int .u8) (0 : Int), .d (.int .u8) (0 : Int), .d (.int .u8) (0 : Int), .d (.int .u8) (0 : Int), .d (.int .u8) (0 : Int), .d (.int .u8) (0 : Int), .d (.int .u8) (0 : Int), .d (.int .u8) (0 : Int), .d (.int .u8) (0 : Int), .d (.int .u8) (0 : Int), .d (.int .u8) (0 : Int), .d (.int .u8) (0 : Int), .d (.int .u8) (0 : Int), .d (.int .u8) (0 : Int)]),
 (98, .one none (.junk)),
 (99, .one none (.junk)),
 (101, .one none (.junk)),
 (102, .one none (.junk)),
 (103, .one none (.junk)),
 (104, .arr 39 20 20 (some (.st (.pr (.int .u64) (.pr (.int .u64) (.pr (.int .u64) (.pr (.int .u64) (.pr (.int .u64) (.pr (.int .u64) (.pr (.int .u64) (.pr (.int .u64) (.pr (.int .u64) (.pr (.int .u64) (.pr (.int .u64) (.pr (.int .u64) (.pr (.int .u64) (.pr (.int .u64) (.pr (.int .u64) (.pr (.int .u64) (.pr (.int .u64) (.pr (.int .u64) (.pr (.int .u64) (.int .u64)))))))))))))))))))))) [.d (.int .u64) (0 : Int), .d (.int .u64) (0 : Int), .d (.int .u64) (0 : Int), .d (.int .u64) (0 : Int), .d (.int .u64) (0 : Int), .d (.int .u64) (0 : Int), .d (.int .u64) (0 : Int), .d (.int .u64) (0 : Int), .d (.int .u64) (0 : Int), .d (.int .u64) (0 : Int), .d (.int .u64) (0 : Int), .d (.int .u64) (0 : Int), .d (.int .u64) (0 : Int), .d (.int .u64) (0 : Int), .d (.int .u64) (0 : Int), .d (.int .u64) (0 : Int), .d (.int .u64) (0 : Int), .d (.int .u64) (0 : Int), .d (.int .u64) (0 : Int), .d (.int .u64) (0 : Int)]),
 (105, .one (some (.int .u32)) (.d (.int .u32) (0 : Int))),
 (106, .arr 5 65 65 (some (.st (.pr (.int .u8) (.pr (.int .u8) (.pr (.int .u8) (.pr (.int .u8) (.pr (.int .u8) (.pr (.int .u8) (.pr (.int .u8) (.pr (.int .u8) (.pr (.int .u8) (.pr (.int .u8) (.pr (.int .u8) (.pr (.int .u8) (.pr (.int .u8) (.pr (.int .u8) (.pr (.int .u8) (.pr (.int .u8) (.pr (.int .u8) (.pr (.int .u8) (.pr (.int .u8) (.pr (.int .u8) (.pr (.int .u8) (.pr (.int .u8) (.pr (.int .u8) (.pr (.int .u8) (.pr (.int .u8) (.pr (.int .u8) (.pr (.int .u8) (.pr (.int .u8) (.pr (.int .u8) (.pr (.int .u8) (.pr (.int .u8) (.pr (.int .u8) (.pr (.int .u8) (.pr (.int .u8) (.pr (.int .u8) (.pr (.int .u8) (.pr (.int .u8) (.pr (.int .u8) (.pr (.int .u8) (.pr (.int .u8) (.pr (.int .u8) (.pr (.int .u8) (.pr (.int .u8) (.pr (.int .u8) (.pr (.int .u8) (.pr (.int .u8) (.pr (.int .u8) (.pr (.int .u8) (.pr (.int .u8) (.pr (.int .u8) (.pr (.int .u8) (.pr (.int .u8) (.pr (.int .u8) (.pr (.int .u8) (.pr (.int .u8) (.pr (.int .u8) (.pr (.int .u8) (.pr (.int .u8) (.pr (.int .u8) (.pr (.int .u8) (.pr (.int .u8) (.pr (.int .u8) (.pr (.int .u8) (.pr (.int .u8) (.int .u8))))))))))))))))))))))))))))))))))))))))))))))))))))))))))))))))))) [.d (.int .u8) (0 : Int), .d (.int .u8) (0 : Int), .d (.int .u8) (0 : Int), .d (.int .u8) (0 : Int), .d (.int .u8) (0 : Int), .d (.int .u8) (0 : Int), .d (.int .u8) (0 : Int), .d (.int .u8) (0 : Int), .d (.int .u8) (0 : Int), .d (.int .u8) (0 : Int), .d (.int .u8) (0 : Int), .d (.int .u8) (0 : Int), .d (.int .u8) (0 : Int), .d (.int .u8) (0 : Int), .d (.int .u8) (0 : Int), .d (.int .u8) (0 : Int), .d (.int .u8) (0 : Int), .d (.int .u8) (0 : Int), .d (.int .u8) (0 : Int), .d (.int .u8) (0 : Int), .d (.int .u8) (0 : Int), .d (.int .u8) (0 : Int), .d (.int .u8) (0 : Int), .d (.int .u8) (0 : Int), .d (.int .u8) (0 : Int), .d (.int .u8) (0 : Int), .d (.int .u8) (0 : Int), .d (.int .u8) (0 : Int), .d (.int .u8) (0 : Int), .d (.int .u8) (0 : Int), .d (.int .u8) (0 : Int), .d (.int .u8) (0 : Int), .d (.int .u8) (0 : Int), .d (.int .u8) (0 : Int), .d (.int .u8) (0 : Int), .d (.int .u8) (0 : Int), .d (.int .u8) (0 : Int), .d (.int .u8) (0 : Int), .d (.int .u8) (0 : Int), .d (.int .u8) (0 : Int), .d (.int .u8) (0 : Int), .d (.int .u8) (0 : Int), .d (.int .u8) (0 : Int), .d (.int .u8) (0 : Int), .d (.int .u8) (0 : Int), .d (.int .u8) (0 : Int), .d (.int .u8) (0 : Int), .d (.int .u8) (0 : Int), .d (.int .u8) (0 : Int), .d (.int .u8) (0 : Int), .d (.int .u8) (0 : Int), .d (.int .u8) (0 : Int), .d (.int .u8) (0 : Int), .d (.int .u8) (0 : Int), .d (.int .u8) (0 : Int), .d (.int .u8) (0 : Int), .d (.int .u8) (0 : Int), .d (.int .u8) (0 : Int), .d (.int .u8) (0 : Int), .d (.int .u8) (0 : Int), .d (.int .u8) (0 : Int), .d (.int .u8) (0 : Int), .d (.int .u8) (0 : Int), .d (.int .u8) (0 : Int), .d (.int .u8) (0 : Int)]),
 (107, .one none (.junk)),
 (108, .one none (.junk)),
 (109, .one none (.junk)),
 (110, .arr 5 32 32 (some (.st (.pr (.int .u8) (.pr (.int .u8) (.pr (.int .u8) (.pr (.int .u8) (.pr (.int .u8) (.pr (.int .u8) (.pr (.int .u8) (.pr (.int .u8) (.pr (.int .u8) (.pr (.int .u8) (.pr (.int .u8) (.pr (.int .u8) (.pr (.int .u8) (.pr (.int .u8) (.pr (.int .u8) (.pr (.int .u8) (.pr (.int .u8) (.pr (.int .u8) (.pr (.int .u8) (.pr (.int .u8) (.pr (.int .u8) (.pr (.int .u8) (.pr (.int .u8) (.pr (.int .u8) (.pr (.int .u8) (.pr (.int .u8) (.pr (.int .u8) (.pr (.int .u8) (.pr (.int .u8) (.pr (.int .u8) (.pr (.int .u8) (.int .u8)))))))))))))))))))))))))))))))))) [.d (.int .u8) (0 : Int), .d (.int .u8) (0 : Int), .d (.int .u8) (0 : Int), .d (.int .u8) (0 : Int), .d (.int .u8) (0 : Int), .d (.int .u8) (0 : Int), .d (.int .u8) (0 : Int), .d (.int .u8) (0 : Int), .d (.int .u8) (0 : Int), .d (.int .u8) (0 : Int), .d (.int .u8) (0 : Int), .d (.int .u8) (0 : Int), .d (.int .u8) (0 : Int), .d (.int .u8) (0 : Int), .d (.int .u8) (0 : Int), .d (.int .u8) (0 : Int), .d (.int .u8) (0 : Int), .d (.int .u8) (0 : Int), .d (.int .u8) (0 : Int), .d (.int .u8) (0 : Int), .d (.int .u8) (0 : Int), .d (.int .u8) (0 : Int), .d (.int .u8) (0 : Int), .d (.int .u8) (0 : Int), .d (.int .u8) (0 : Int), .d (.int .u8) (0 : Int), .d (.int .u8) (0 : Int), .d (.int .u8) (0 : Int), .d (.int .u8) (0 : Int), .d (.int .u8) (0 : Int), .d (.int .u8) (0 : Int), .d (.int .u8) (0 : Int)]),
 (111, .arr 5 64 64 (some (.st (.pr (.int .u8) (.pr (.int .u8) (.pr (.int .u8) (.pr (.int .u8) (.pr (.int .u8) (.pr (.int .u8) (.pr (.int .u8) (.pr (.int .u8) (.pr (.int .u8) (.pr (.int .u8) (.pr (.int .u8) (.pr (.int .u8) (.pr (.int .u8) (.pr (.int .u8) (.pr (.int .u8) (.pr (.int .u8) (.pr (.int .u8) (.pr (.int .u8) (.pr (.int .u8) (.pr (.int .u8) (.pr (.int .u8) (.pr (.int .u8) (.pr (.int .u8) (.pr (.int .u8) (.pr (.int .u8) (.pr (.int .u8) (.pr (.int .u8) (.pr (.int .u8) (.pr (.int .u8) (.pr (.int .u8) (.pr (.int .u8) (.pr (.int .u8) (.pr (.int .u8) (.pr (.int .u8) (.pr (.int .u8) (.pr (.int .u8) (.pr (.int .u8) (.pr (.int .u8) (.pr (.int .u8) (.pr (.int .u8) (.pr (.int .u8) (.pr (.int .u8) (.pr (.int .u8) (.pr (.int .u8) (.pr (.int .u8) (.pr (.int .u8) (.pr (.int .u8) (.pr (.int .u8) (.pr (.int .u8) (.pr (.int .u8) (.pr (.int .u8) (.pr (.int .u8) (.pr (.int .u8) (.pr (.int .u8) (.pr (.int .u8) (.pr (.int .u8) (.pr (.int .u8) (.pr (.int .u8) (.pr (.int .u8) (.pr (.int .u8) (.pr (.int .u8) (.pr (.int .u8) (.pr (.int .u8) (.int .u8)))))))))))))))))))))))))))))))))))))))))))))))))))))))))))))))))) [.d (.int .u8) (0 : Int), .d (.int .u8) (0 : Int), .d (.int .u8) (0 : Int), .d (.int .u8) (0 : Int), .d (.int .u8) (0 : Int), .d (.int .u8) (0 : Int), .d (.int .u8) (0 : Int), .d (.int .u8) (0 : Int), .d (.int .u8) (0 : Int), .d (.int .u8) (0 : Int), .d (.int .u8) (0 : Int), .d (.int .u8) (0 : Int), .d (.int .u8) (0 : Int), .d (.int .u8) (0 : Int), .d (.int .u8) (0 : Int), .d (.int .u8) (0 : Int), .d (.int .u8) (0 : Int), .d (.int .u8) (0 : Int), .d (.int .u8) (0 : Int), .d (.int .u8) (0 : Int), .d (.int .u8) (0 : Int), .d (.int .u8) (0 : Int), .d (.int .u8) (0 : Int), .d (.int .u8) (0 : Int), .d (.int .u8) (0 : Int), .d (.int .u8) (0 : Int), .d (.int .u8) (0 : Int), .d (.int .u8) (0 : Int), .d (.int .u8) (0 : Int), .d (.int .u8) (0 : Int), .d (.int .u8) (0 : Int), .d (.int .u8) (0 : Int), .d (.int .u8) (0 : Int), .d (.int .u8) (0 : Int), .d (.int .u8) (0 : Int), .d (.int .u8) (0 : Int), .d (.int .u8) (0 : Int), .d (.int .u8) (0 : Int), .d (.int .u8) (0 : Int), .d (.int .u8) (0 : Int), .d (.int .u8) (0 : Int), .d (.int .u8) (0 : Int), .d (.int .u8) (0 : Int), .d (.int .u8) (0 : Int), .d (.int .u8) (0 : Int), .d (.int .u8) (0 : Int), .d (.int .u8) (0 : Int), .d (.int .u8) (0 : Int), .d (.int .u8) (0 : Int), .d (.int .u8) (0 : Int), .d (.int .u8) (0 : Int), .d (.int .u8) (0 : Int), .d (.int .u8) (0 : Int), .d (.int .u8) (0 : Int), .d (.int .u8) (0 : Int), .d (.int .u8) (0 : Int), .d (.int .u8) (0 : Int), .d (.int .u8) (0 : Int), .d (.int .u8) (0 : Int), .d (.int .u8) (0 : Int), .d (.int .u8) (0 : Int), .d (.int .u8) (0 : Int), .d (.int .u8) (0 : Int), .d (.int .u8) (0 : Int)]),
 (112, .one none (.junk)),
 (113, .agg [(0, 17), (1, 17), (2, 17), (3, 9)] 4 none [.np, .np, .np, .d .str ⟨#[]⟩]),
 (114, .agg [(0, 17), (1, 17), (2, 17), (3, 9)] 4 none [.np, .np, .np, .d .str ⟨#[]⟩]),
 (115, .arr 16 0 0 none []),
 (118, .one none (.junk)),
 (119, .one (some (.int .u8)) (.d (.int .u8) (0 : Int))),
 (120, .one (some (.int .u8)) (.d (.int .u8) (0 : Int))),
 (121, .one none (.junk)),
 (122, .one none (.np)),
 (123, .one (some (.int .i32)) (.d (.int .i32) (0 : Int))),
 (124, .one (some (.int .i32)) (.d (.int .i32) (0 : Int))),
 (125, .agg [(0, 12), (1, 12), (2, 105), (3, 119), (4, 5), (5, 5), (6, 120), (7, 121), (8, 122), (9, 123), (10, 124)] 11 none [.d (.int .u64) (0 : Int), .d (.int .u64) (0 : Int), .d (.int .u32) (0 : Int), .d (.int .u8) (0 : Int), .d (.int .u8) (0 : Int), .d (.int .u8) (0 : Int), .d (.int .u8) (0 : Int), .junk, .np, .d (.int .i32) (0 : Int), .d (.int .i32) (0 : Int)]),
 (126, .agg [(0, 12), (1, 12), (2, 105), (3, 119), (4, 5), (5, 5), (6, 120), (7, 121), (8, 122), (9, 123), (10, 124)] 11 none [.d (.int .u64) (0 : Int), .d (.int .u64) (0 : Int), .d (.int .u32) (0 : Int), .d (.int .u8) (0 : Int), .d (.int .u8) (0 : Int), .d (.int .u8) (0 : Int), .d (.int .u8) (0 : Int), .junk, .np, .d (.int .i32) (0 : Int), .d (.int .i32) (0 : Int)]),
 (127, .one none (.junk))]
theorem tysDOk : tysB P tysD = true := by kernel_rfl
theorem tysOk : tysB P tys = true := by kernel_rfl
theorem mixedOk : P.follows .mixedOrders = true := by kernel_rfl
end Go.VI
namespace Go.VI
open Go Go.Proofs
def bigL {α : Type} (l : List α) : Bool := decide (l.length ≤ 1073741824)
def inI64 (x : Int) : Bool := decide (-9223372036854775808 ≤ x) && decide (x ≤ 9223372036854775807)
def chk (x : Int) : Int × Bool := cond (inI64 x) (x, true) (0, false)
def safeint_Add.spec (a b : Int) : Int × Bool := chk (a + b)
def safeint_Sub.spec (a b : Int) : Int × Bool := chk (a - b)
def vecOp (op : Int → Int → Int) : List Int → List Int → Option (List Int)
 | x :: xs, y :: ys => cond (inI64 (op x y)) ((vecOp op xs ys).map (op x y :: ·)) none
 | _, _ => some []
def vecRes (op : Int → Int → Int) (a b : List Int) : List Int × Int := cond (Nat.beq a.length b.length) (match vecOp op a b with
 | some r => (r, 0)
 | none => ([], 3)) ([], 2)
def vector_Add.pre (a b : List Int) : Bool := decide (a.length ≤ 1073741824)
def vector_Add.spec (a b : List Int) : List Int × Int := vecRes (· + ·) a b
def pf01_Abs.spec (a : Int) : Int := cond (decide (a < 0)) (-a) a
def pf01_Plus.spec (a b : Int) : Bool × Int × Int := (decide (a + b < 0), cond (decide (a + b = -18446744073709551616)) 1 0, cond (decide (a + b = -18446744073709551616)) 0 (cond (decide (a + b < 0)) (-(a + b)) (a + b)))
def pf01_Narrow.spec (w : Bool × Int × Int) : Int × Bool := chk (cond w.1 (-(w.2.1 * 18446744073709551616 + w.2.2)) (w.2.1 * 18446744073709551616 + w.2.2))
def pf01_Add.spec (a b : Int) : Int × Bool := chk (a + b)
def pf08_Vectors.spec (a b : List Int) : Bool := decide (a = b)
def safeint_size.spec (a : Int) : Int := (a.natAbs : Int)
def safeint_signed.spec (n : Int) (neg : Bool) : Int × Bool := cond neg (cond (decide (n ≤ 9223372036854775808)) (-n, true) (0, false)) (cond (decide (n ≤ 9223372036854775807)) (n, true) (0, false))
def safeint_common.spec (a b : Int) : Int := (Int.gcd a b : Int)
def safeint_Mul.spec (a b : Int) : Int × Bool := chk (a * b)
def safeint_Gcd.spec (a b : Int) : Int × Bool := chk (Int.gcd a b : Int)
def comb1 (i k x y : Int) : Option Int := cond (inI64 (x * i) && inI64 (y * k) && inI64 (x * i + y * k)) (some (x * i + y * k)) none
def combL (i k : Int) : List Int → List Int → Option (List Int)
 | x :: xs, y :: ys => match comb1 i k x y with
  | some z => (combL i k xs ys).map (z :: ·)
  | none => none
 | _, _ => some []
def combS (a : List Int) (i : Int) (b : List Int) (k : Int) : List Int × Int := cond (Nat.beq a.length b.length) (match combL i k a b with
 | some r => (r, 0)
 | none => ([], 3)) ([], 2)
def vector_Combine.pre (a : List Int) (i : Int) (b : List Int) (k : Int) : Bool := bigL a
def vector_Combine.spec (a : List Int) (i : Int) (b : List Int) (k : Int) : List Int × Int := combS a i b k
def gcdL (l : List Int) : Nat := l.foldl (fun g x => Int.gcd g x) 0
def primS (a : List Int) : List Int × Int := cond (a.any fun x => x == -9223372036854775808) ([], 3) (a.map fun x => x.tdiv (gcdL a : Int), 0)
def vector_Prim.pre (a : List Int) : Bool := bigL a
def vector_Prim.spec (a : List Int) : List Int × Int := primS a
def suppL : Int → List Int → List Int
 | _, [] => []
 | i, x :: l => cond (x == 0) (suppL (i + 1) l) (i :: suppL (i + 1) l)
def vector_Support.pre (a : List Int) : Bool := bigL a
def vector_Support.spec (a : List Int) : List Int := suppL 0 a
def cmpL : List Int → List Int → Int
 | [], [] => 0
 | [], _ :: _ => -1
 | _ :: _, [] => 1
 | x :: a, y :: b => cond (decide (x < y)) (-1) (cond (decide (y < x)) 1 (cmpL a b))
def vector_Compare.spec (a b : List Int) : Int := cmpL a b
def pf03_Compare.spec (a b : List Int) : Int := cmpL a b
def validM (a : List (List Int)) : Bool := decide (1 ≤ a.length) && decide (a.length ≤ 64) && (a.all fun r => decide (r.length = (a.headD []).length)) && decide (1 ≤ (a.headD []).length) && decide ((a.headD []).length ≤ 64)
def matrix_Valid.spec (a : List (List Int)) : Bool := validM a
def pf08_Valid.spec (a : List (List Int)) : Bool := validM a
def safeint_times.spec (a b : Int) : Int × Int := (a * b / 18446744073709551616, a * b % 18446744073709551616)
def net_Incidence.spec (n : BA × List (BA × Int × Int) × List (BA × List (Int × Int) × List (Int × Int) × List (Int × Int) × Int)) : List (List Int) :=
 n.2.1.length.fold (fun p _ acc => acc ++ [n.2.2.map fun t => ((t.2.2.1.find? fun a => a.1 == (p : Int)).elim 0 (·.2)) - ((t.2.1.find? fun a => a.1 == (p : Int)).elim 0 (·.2))]) []
def matrix_Transpose.spec (a : List (List Int)) : List (List Int) := (List.range (a.headD []).length).map fun c => a.map fun r => r.getD c 0
abbrev ArcT := Int × Int
abbrev PlaceT := BA × Int × Int
abbrev TransT := BA × List (Int × Int) × List (Int × Int) × List (Int × Int) × Int
abbrev NetT := BA × List (BA × Int × Int) × List (BA × List (Int × Int) × List (Int × Int) × List (Int × Int) × Int)
def letterB (c : UInt8) : Bool := (Nat.ble 97 c.toNat && Nat.ble c.toNat 122) || Nat.beq c.toNat 95
def otherB (c : UInt8) : Bool := (Nat.ble 48 c.toNat && Nat.ble c.toNat 57) || Nat.beq c.toNat 46
def nameL : List UInt8 → Bool
 | [] => false
 | c :: l => letterB c && (l.all fun c => letterB c || otherB c)
def nameOk (s : BA) : Bool := Nat.ble s.data.toList.length 16 && nameL s.data.toList
def net_Name.spec (s : BA) : Bool := nameOk s
def pf09_Name.spec (s : BA) : Bool := nameOk s
def arcsE (np : Int) : Option Int → List (Int × Int) → Int
 | _, [] => 0
 | prev, a :: l => cond (decide (a.1 < 0) || decide (np ≤ a.1)) 7 (cond (match prev with | some q => decide (a.1 ≤ q) | none => false) 8 (cond (decide (a.2 < 1) || decide (99 < a.2)) 9 (arcsE np (some a.1) l)))
def net_checkArcs.spec (l : List (Int × Int)) (np : Int) : Int := arcsE np none l
def placeE (p : BA × Int × Int) : Int := cond (decide (p.2.2 < 0) || decide (1048576 < p.2.2)) 1 (cond ((decide (p.2.1 < 0) || decide (1048576 < p.2.1)) || (!(p.2.2 == 0) && decide (p.2.2 < p.2.1))) 10 0)
def net_checkPlace.spec (p : BA × Int × Int) : Int := placeE p
def transE (t : TransT) (np : Int) : Int := cond (decide (t.2.2.2.2 < 0) || decide (9 < t.2.2.2.2)) 1 (cond (arcsE np none t.2.1 == 0) (cond (arcsE np none t.2.2.1 == 0) (arcsE np none t.2.2.2.1) (arcsE np none t.2.2.1)) (arcsE np none t.2.1))
def net_checkTrans.spec (t : TransT) (np : Int) : Int := transE t np
def marking_Valid.spec (m : List Int) (n : Int) : Bool := decide ((m.length : Int) = n) && m.all fun k => decide (0 ≤ k) && decide (k ≤ 1048576)
def addE (names : List BA) (s : BA) : Int := cond (nameOk s) (cond (names.any fun o => sEq o s) 6 0) 5
def placesE : List BA → Int → List (BA × Int × Int) → Option (Int × Int)
 | _, _, [] => none
 | names, i, p :: l => cond (addE names p.1 == 0) (cond (placeE p == 0) (placesE (names ++ [p.1]) (i + 1) l) (some (placeE p, i))) (some (addE names p.1, i))
def transesE (np : Int) : List BA → Int → List TransT → Option (Int × Int)
 | _, _, [] => none
 | names, i, t :: l => cond (addE names t.1 == 0) (cond (transE t np == 0) (transesE np (names ++ [t.1]) (i + 1) l) (some (transE t np, np + i))) (some (addE names t.1, np + i))
def checkN (n : NetT) : Int × Int := cond (nameOk n.1) (cond (decide (n.2.1.length < 1) || decide (24 < n.2.1.length) || decide (24 < n.2.2.length)) (2, 0) (match placesE [] 0 n.2.1 with
 | some r => r
 | none => match transesE (n.2.1.length : Int) (n.2.1.map (·.1)) 0 n.2.2 with
  | some r => r
  | none => (0, 0))) (5, 0)
def net_Check.spec (n : NetT) : Int × Int := checkN n
def weightS : List (Int × Int) → Int → Int
 | [], _ => 0
 | a :: l, p => cond (a.1 == p) a.2 (weightS l p)
def net_weight.spec (l : List (Int × Int)) (p : Int) : Int := weightS l p
def pf09_Weight.spec (l : List (Int × Int)) (p : Int) : Int := weightS l p
def pf09_arcs.spec (n : NetT) (l : List (Int × Int)) : Int := arcsE (n.2.1.length : Int) none l
def plAt (n : NetT) (i : Int) : BA × Int × Int := n.2.1.getD i.toNat (eBA, 0, 0)
def trAt (n : NetT) (i : Int) : TransT := n.2.2.getD i.toNat (eBA, [], [], [], 0)
def pf09_place.pre (n : NetT) (i : Int) : Bool := decide (0 ≤ i) && decide (i < (n.2.1.length : Int))
def pf09_place.spec (n : NetT) (i : Int) : Int := cond (addE ((n.2.1.take i.toNat).map (·.1)) (plAt n i).1 == 0) (placeE (plAt n i)) (addE ((n.2.1.take i.toNat).map (·.1)) (plAt n i).1)
def pf09_trans.pre (n : NetT) (i : Int) : Bool := decide (0 ≤ i) && decide (i < (n.2.2.length : Int))
def pf09_trans.spec (n : NetT) (i : Int) : Int := cond (addE (n.2.1.map (·.1) ++ (n.2.2.take i.toNat).map (·.1)) (trAt n i).1 == 0) (transE (trAt n i) (n.2.1.length : Int)) (addE (n.2.1.map (·.1) ++ (n.2.2.take i.toNat).map (·.1)) (trAt n i).1)
def pf09_Check.spec (n : NetT) : Int × Int := checkN n
def net_valid.spec (n : NetT) : Bool := (checkN n).1 == 0
def pf09_Valid.spec (n : NetT) : Bool := (checkN n).1 == 0
def noNet : NetT := (eBA, [], [])
def firstI {α : Type} (f : α → Bool) : Int → List α → Int
 | _, [] => -1
 | i, a :: l => cond (f a) i (firstI f (i + 1) l)
def placeI (n : NetT) (s : BA) : Int := cond ((checkN n).1 == 0) (firstI (fun p => sEq p.1 s) 0 n.2.1) (-1)
def transI (n : NetT) (s : BA) : Int := cond ((checkN n).1 == 0) (firstI (fun t => sEq t.1 s) 0 n.2.2) (-1)
def net_Place.spec (n : NetT) (s : BA) : Int := placeI n s
def net_Trans.spec (n : NetT) (s : BA) : Int := transI n s
def plainN (n : NetT) : Bool := (n.2.2.all fun t => List.isEmpty t.2.2.2.1 && t.2.2.2.2 == 0) && (n.2.1.all fun p => p.2.2 == 0) && (checkN n).1 == 0
def net_Plain.spec (n : NetT) : Bool := plainN n
def pf09_Plain.spec (n : NetT) : Bool := plainN n
def knownN (n : NetT) (s : BA) : Bool := (n.2.1.any fun p => sEq p.1 s) || n.2.2.any fun t => sEq t.1 s
def over (n : NetT) (m : List Int) : Bool := (n.2.1.zip m).any fun q => !(q.1.2.2 == 0) && decide (q.1.2.2 < q.2)
def startN (n : NetT) (m : List Int) : NetT := (n.1, List.zipWith (fun p k => (p.1, k, p.2.2)) n.2.1 m, n.2.2)
def startE (n : NetT) (m : List Int) : NetT × Int := cond ((checkN n).1 == 0) (cond (marking_Valid.spec m (n.2.1.length : Int)) (cond (over n m) (noNet, 10) (startN n m, 0)) (noNet, 10)) (noNet, (checkN n).1)
def tf_Start.spec (n : NetT) (m : List Int) : NetT × Int := startE n m
def pf12_Start.spec (n : NetT) (m : List Int) : NetT × Int := startE n m
def revT (t : TransT) : TransT := (t.1, t.2.2.1, t.2.1, t.2.2.2.1, t.2.2.2.2)
def revE (n : NetT) : NetT × Int := cond ((checkN n).1 == 0) (cond (plainN n) ((n.1, n.2.1, n.2.2.map revT), 0) (noNet, 12)) (noNet, (checkN n).1)
def tf_Reverse.spec (n : NetT) : NetT × Int := revE n
def pf12_Reverse.spec (n : NetT) : NetT × Int := revE n
def pf04_Valid.spec (m : List Int) (n : Int) : Bool := marking_Valid.spec m n
def pf04_Same.spec (a b : List Int) : Bool := a == b
def tf_clone.pre (l : List (Int × Int)) : Bool := bigL l
def tf_clone.spec (l : List (Int × Int)) : List (Int × Int) := l
def pf12_copied.pre (l : List (Int × Int)) : Bool := bigL l
def pf12_copied.spec (l : List (Int × Int)) : List (Int × Int) := l
def tf_weight.spec (l : List (Int × Int)) (p : Int) : Int := weightS l p
def tf_samePlace.spec (i : Int) (p : PlaceT) : PlaceT := p
def tf_Reverse_1.spec (t : TransT) : TransT := revT t
def tf_Start_1.pre (i : Int) (p : PlaceT) (m : List Int) : Bool := decide (0 ≤ i) && decide (i < (m.length : Int))
def tf_Start_1.spec (i : Int) (p : PlaceT) (m : List Int) : PlaceT := (p.1, m.getD i.toNat 0, p.2.2)
def tf_Start_2.spec (t : TransT) : TransT := t
def tf_Union_2.spec (t : TransT) : TransT := t
def tf_Union_1.spec (s : BA) (a : NetT) : Bool := (checkN a).1 == 0 && knownN a s
def shiftL (l : List (Int × Int)) (k : Int) : List (Int × Int) := l.map fun a => (IntKind.i64.wrap (a.1 + k), a.2)
def tf_shift.pre (l : List (Int × Int)) (k : Int) : Bool := bigL l
def tf_shift.spec (l : List (Int × Int)) (k : Int) : List (Int × Int) := shiftL l k
def pf12_moved.pre (l : List (Int × Int)) (k : Int) : Bool := bigL l
def pf12_moved.spec (l : List (Int × Int)) (k : Int) : List (Int × Int) := shiftL l k
def pf12_known.spec (n : NetT) (s : BA) : Bool := knownN n s
def hasB (s i : Int) : Bool := decide (0 ≤ i) && decide (i < 64) && decide (s / 2 ^ i.toNat % 2 = 1)
def bitset_Has.spec (s i : Int) : Bool := hasB s i
def pf06_Has.spec (s i : Int) : Bool := hasB s i
def rankN (s : Int) : Nat → Nat
 | 0 => 0
 | k + 1 => rankN s k + (cond (hasB s (k : Int)) 1 0)
def keptL (s : Int) (l : List (Int × Int)) : List (Int × Int) := l.filterMap fun a => cond (hasB s a.1) (some ((rankN s a.1.toNat : Int), a.2)) none
def pf12_rank.spec (s i : Int) : Int := (rankN s i.toNat : Int)
def pf12_kept.pre (l : List (Int × Int)) (s : Int) : Bool := bigL l
def pf12_kept.spec (l : List (Int × Int)) (s : Int) : List (Int × Int) := keptL s l
def tf_Subnet_1.pre (l : List (Int × Int)) (ix : List Int) : Bool := bigL l && l.all fun a => decide (0 ≤ a.1) && decide (a.1 < (ix.length : Int))
def tf_Subnet_1.spec (l : List (Int × Int)) (ix : List Int) : List (Int × Int) := l.filterMap fun a => cond (decide (0 ≤ ix.getD a.1.toNat 0)) (some (ix.getD a.1.toNat 0, a.2)) none
def filtB {α : Type} (s : Int) : Int → List α → List α
 | _, [] => []
 | i, a :: l => cond (hasB s i) (a :: filtB s (i + 1) l) (filtB s (i + 1) l)
def keptT (s : Int) (t : TransT) : TransT := (t.1, keptL s t.2.1, keptL s t.2.2.1, keptL s t.2.2.2.1, t.2.2.2.2)
def subE (n : NetT) (ps ts : Int) : NetT × Int := cond ((checkN n).1 == 0) (cond (List.isEmpty (filtB ps 0 n.2.1)) (noNet, 19) ((n.1, filtB ps 0 n.2.1, (filtB ts 0 n.2.2).map (keptT ps)), 0)) (noNet, (checkN n).1)
def tf_Subnet.spec (n : NetT) (ps ts : Int) : NetT × Int := subE n ps ts
def pf12_Subnet.spec (n : NetT) (ps ts : Int) : NetT × Int := subE n ps ts
def pf12_Copy.spec (n : NetT) : NetT := n
def shiftT (k : Int) (t : TransT) : TransT := (t.1, shiftL t.2.1 k, shiftL t.2.2.1 k, shiftL t.2.2.2.1 k, t.2.2.2.2)
def unionE (a b : NetT) : NetT × Int := cond ((checkN a).1 == 0) (cond ((checkN b).1 == 0) (cond (decide (24 < a.2.1.length + b.2.1.length) || decide (24 < a.2.2.length + b.2.2.length)) (noNet, 2)
  (cond ((b.2.1.any fun p => knownN a p.1) || b.2.2.any fun t => knownN a t.1) (noNet, 6) ((a.1, a.2.1 ++ b.2.1, a.2.2 ++ b.2.2.map (shiftT (a.2.1.length : Int))), 0))) (noNet, (checkN b).1)) (noNet, (checkN a).1)
def tf_Union.spec (a b : NetT) : NetT × Int := unionE a b
def pf12_Union.spec (a b : NetT) : NetT × Int := unionE a b
def arcsTo (f : TransT → List (Int × Int)) (p : Int) : Int → List TransT → List (Int × Int)
 | _, [] => []
 | k, t :: l => cond (decide (0 < weightS (f t) p)) ((k, weightS (f t) p) :: arcsTo f p (k + 1) l) (arcsTo f p (k + 1) l)
def dualT (ts : List TransT) : Int → List PlaceT → List TransT
 | _, [] => []
 | i, p :: l => (p.1, arcsTo (fun t => t.2.2.1) i 0 ts, arcsTo (fun t => t.2.1) i 0 ts, [], 0) :: dualT ts (i + 1) l
def dualE (n : NetT) : NetT × Int := cond ((checkN n).1 == 0) (cond (plainN n) (cond (List.isEmpty n.2.2) (noNet, 2) ((n.1, n.2.2.map fun t => (t.1, 0, 0), dualT n.2.2 0 n.2.1), 0)) (noNet, 12)) (noNet, (checkN n).1)
def tf_Dual.spec (n : NetT) : NetT × Int := dualE n
def pf12_Dual.spec (n : NetT) : NetT × Int := dualE n
def plainE (n : NetT) : Int := cond ((checkN n).1 == 0) (cond (plainN n) 0 12) (checkN n).1
def tf_checkPlain.spec (n : NetT) : Int := plainE n
def pf12_plain.spec (n : NetT) : Int := plainE n
def pf09_SameArcs.spec (a b : List (Int × Int)) : Bool := decide (a = b)
def placeQ (p q : PlaceT) : Bool := sEq p.1 q.1 && (p.2.1 == q.2.1 && p.2.2 == q.2.2)
def transQ (x y : TransT) : Bool := sEq x.1 y.1 && x.2.2.2.2 == y.2.2.2.2 && decide (x.2.1 = y.2.1) && decide (x.2.2.1 = y.2.2.1) && decide (x.2.2.2.1 = y.2.2.2.1)
def allQ {α : Type} (f : α → α → Bool) : List α → List α → Bool
 | [], [] => true
 | x :: l, y :: m => f x y && allQ f l m
 | _, _ => false
def equalN (a b : NetT) : Bool := sEq a.1 b.1 && allQ placeQ a.2.1 b.2.1 && allQ transQ a.2.2 b.2.2
def pf09_Equal.spec (a b : NetT) : Bool := equalN a b
def smallN (n : NetT) : Bool := (decide (n.2.1.length ≤ 26) && decide (n.2.2.length ≤ 26) && decide (n.1.data.toList.length ≤ 20)) && (n.2.1.all fun p => decide (p.1.data.toList.length ≤ 20)) &&
 n.2.2.all fun t => decide (t.1.data.toList.length ≤ 20) && decide (t.2.1.length ≤ 26) && decide (t.2.2.1.length ≤ 26) && decide (t.2.2.2.1.length ≤ 26)
def pf09_Small.spec (n : NetT) : NetT × Bool := cond (smallN n) (n, true) (noNet, false)
def pf04_Copy.pre (l : List Int) : Bool := bigL l
def pf04_Copy.spec (l : List Int) : List Int := l
def pl12_lives.spec : Bool := true
def pl12_TransformParts.spec (n : NetT) (p : Int × Int) (m : List Int) : Bool := true
def pl12_TransformMirrors.spec (n : NetT) : Bool := true
def pl12_TransformUnions.spec (a b : NetT) : Bool := true
def pl12_TransformReturns.spec (n : NetT) : Bool := true
def pl12_TransformJoins.spec (a b : NetT) : Bool := true
def pl12_TransformStarts.spec (n : NetT) (m : List Int) : Bool := true
def allB (n : Int) : Int := 2 ^ (min n.toNat 64) - 1
def pl12_all.spec (n : Int) : Int := allB n
def digB (n : Int) : BA := cond (decide (n < 10)) ⟨#[UInt8.ofNat (48 + n.toNat)]⟩ ⟨#[UInt8.ofNat (48 + n.toNat / 10), UInt8.ofNat (48 + n.toNat % 10)]⟩
def strconv_Itoa.pre (n : Int) : Bool := decide (0 ≤ n) && decide (n < 100)
def strconv_Itoa.spec (n : Int) : BA := digB n
def pf12_digits.pre (n : Int) : Bool := decide (0 ≤ n) && decide (n < 100)
def pf12_digits.spec (n : Int) : BA := digB n
def tf_Complement_1.spec (i : Int) (p : PlaceT) : PlaceT := (p.1, p.2.1, 0)
def compK (t : TransT) (i : Int) (c : Int) : Int := cond (decide (0 < weightS t.2.2.2.1 i)) (max (max 0 (weightS t.2.2.1 i - weightS t.2.1 i)) (c - weightS t.2.2.2.1 i + 1)) (max 0 (weightS t.2.2.1 i - weightS t.2.1 i))
def compD (t : TransT) (i : Int) : Int := weightS t.2.2.1 i - weightS t.2.1 i
def compPre (t : TransT) : Int → Int → List PlaceT → List (Int × Int)
 | _, _, [] => []
 | a, i, p :: l => cond (p.2.2 == 0) (compPre t a (i + 1) l) (cond (decide (0 < compK t i p.2.2)) ((a, compK t i p.2.2) :: compPre t (a + 1) (i + 1) l) (compPre t (a + 1) (i + 1) l))
def compPost (t : TransT) : Int → Int → List PlaceT → List (Int × Int)
 | _, _, [] => []
 | a, i, p :: l => cond (p.2.2 == 0) (compPost t a (i + 1) l) (cond (decide (compD t i < compK t i p.2.2)) ((a, compK t i p.2.2 - compD t i) :: compPost t (a + 1) (i + 1) l) (compPost t (a + 1) (i + 1) l))
def compT (n : NetT) (t : TransT) : TransT := (t.1, t.2.1 ++ compPre t (n.2.1.length : Int) 0 n.2.1, t.2.2.1 ++ compPost t (n.2.1.length : Int) 0 n.2.1, [], t.2.2.2.2)
def tf_Complement_2.pre (t : TransT) (n : NetT) : Bool := (checkN n).1 == 0 && transE t (n.2.1.length : Int) == 0
def tf_Complement_2.spec (t : TransT) (n : NetT) : TransT := compT n t
def bndL : Int → List PlaceT → List Int
 | _, [] => []
 | i, p :: l => cond (decide (0 < p.2.2)) (i :: bndL (i + 1) l) (bndL (i + 1) l)
def pf12_bounded.pre (n : NetT) : Bool := bigL n.2.1
def pf12_bounded.spec (n : NetT) : List Int := bndL 0 n.2.1
def cmName (i : Int) : BA := sCat (ByteArray.mk #[95]) (digB i)
def inhE (n : NetT) : Bool := n.2.2.any fun t => t.2.2.2.1.any fun a => (n.2.1.getD (Int.toNat a.1) (eBA, 0, 0)).2.2 == 0
def mayE (n : NetT) : Int := cond ((checkN n).1 == 0) (cond (inhE n) 12 (cond (decide (24 < n.2.1.length + (bndL 0 n.2.1).length)) 2 (cond ((bndL 0 n.2.1).any fun i => knownN n (cmName i)) 6 0))) (checkN n).1
def tf_checkComplement.spec (n : NetT) : Int := mayE n
def pf12_may.spec (n : NetT) : Int := mayE n
def cmPlaces : Int → List PlaceT → List PlaceT
 | _, [] => []
 | i, p :: l => cond (p.2.2 == 0) (cmPlaces (i + 1) l) ((cmName i, p.2.2 - p.2.1, 0) :: cmPlaces (i + 1) l)
def cmN (n : NetT) : NetT := (n.1, n.2.1.map (fun p => (p.1, p.2.1, 0)) ++ cmPlaces 0 n.2.1, n.2.2.map (compT n))
def bigW (l : List TransT) : Bool := l.any fun t => (t.2.1.any fun a => decide (99 < a.2)) || t.2.2.1.any fun a => decide (99 < a.2)
def cmE (n : NetT) : NetT × Int := cond (mayE n == 0) (cond (bigW (cmN n).2.2) (noNet, 9) (cmN n, 0)) (noNet, mayE n)
def tf_Complement.spec (n : NetT) : NetT × Int := cmE n
def pf12_Complement.spec (n : NetT) : NetT × Int := cmE n
def liftL (ps : List PlaceT) (m : List Int) : List Int := (ps.zip m).filterMap fun q => cond (q.1.2.2 == 0) none (some (q.1.2.2 - q.2))
def liftE (n : NetT) (m : List Int) : List Int × Int := cond ((cmE n).2 == 0) (cond (marking_Valid.spec m (n.2.1.length : Int)) (cond (over n m) ([], 1) (m ++ liftL n.2.1 m, 0)) ([], 2)) ([], (cmE n).2)
def tf_Lift.spec (n : NetT) (m : List Int) : List Int × Int := liftE n m
def pf12_Lift.spec (n : NetT) (m : List Int) : List Int × Int := liftE n m
def pl12_TransformComplements.spec (n : NetT) (m : List Int) : Bool := true
def nz (i : Int) (v : List Int) : Bool := decide (i < (v.length : Int)) && !(v.getD i.toNat 0 == 0)
def coveredS (flows : List (List Int)) (k : Int) : Bool := (List.range k.toNat).all fun i => flows.any fun v => nz i v
def semiflow_Covered.spec (flows : List (List Int)) (k : Int) : Bool := coveredS flows k
def pf31_Covered.spec (flows : List (List Int)) (k : Int) : Bool := coveredS flows k
def sumVs : List Int → List (List Int) → List Int × Int
 | acc, [] => (acc, 0)
 | acc, v :: vs => match vecOp (· + ·) acc v with
  | some r => sumVs r vs
  | none => ([], 3)
def sumS (flows : List (List Int)) : List Int × Int := match flows with
 | [] => ([], 2)
 | v :: vs => cond (vs.all fun u => Nat.beq u.length v.length) (sumVs (List.replicate v.length 0) flows) ([], 2)
def semiflow_Sum.pre (flows : List (List Int)) : Bool := flows.all fun v => decide (v.length ≤ 1073741824)
def semiflow_Sum.spec (flows : List (List Int)) : List Int × Int := sumS flows
def pf31_Sum.pre (flows : List (List Int)) : Bool := flows.all fun v => decide (v.length ≤ 1073741824)
def pf31_Sum.spec (flows : List (List Int)) : List Int × Int := sumS flows
def pl31_short.spec (a : List (List Int)) : Bool := decide (a.length ≤ 20) && a.all fun r => decide (r.length ≤ 20)
def pl31_lives.spec : Bool := true
def pl31_SemiflowSums.spec (flows : List (List Int)) (k : Int) : Bool := true
abbrev RowT := List Int × Int
def suppB (l : List Int) : Int := (suppL 0 l).foldl (fun s i => s + 2 ^ i.toNat) 0
def rowX (r : RowT) : List Int := r.1.drop r.2.toNat
def semiflow_row_support.pre (r : RowT) : Bool := decide (0 ≤ r.2) && decide (r.2 ≤ (r.1.length : Int)) && decide ((r.1.length : Int) ≤ r.2 + 64) && bigL r.1
def semiflow_row_support.spec (r : RowT) : Int := suppB (rowX r)
def unitL (n i : Nat) : List Int := (List.range n).map fun k => cond (Nat.beq k i) 1 0
def startS (a : List (List Int)) : List RowT := (List.range (a.headD []).length).map fun c => (a.map (fun r => r.getD c 0) ++ unitL (a.headD []).length c, (a.length : Int))
def semiflow_start.pre (a : List (List Int)) : Bool := validM a
def semiflow_start.spec (a : List (List Int)) : List RowT := startS a
def joinS (p q : RowT) (j : Int) : RowT × Int := cond (decide (q.1.getD j.toNat 0 = 0) || decide (q.1.getD j.toNat 0 = -9223372036854775808)) (([], 0), 3)
 (cond ((combS p.1 (-(q.1.getD j.toNat 0)) q.1 (p.1.getD j.toNat 0)).2 == 0)
  (((primS (combS p.1 (-(q.1.getD j.toNat 0)) q.1 (p.1.getD j.toNat 0)).1).1, p.2), (primS (combS p.1 (-(q.1.getD j.toNat 0)) q.1 (p.1.getD j.toNat 0)).1).2)
  (([], 0), (combS p.1 (-(q.1.getD j.toNat 0)) q.1 (p.1.getD j.toNat 0)).2))
def semiflow_join.pre (p q : RowT) (j : Int) : Bool := decide (0 ≤ j) && decide (j < (p.1.length : Int)) && decide (j < (q.1.length : Int)) && bigL p.1
def semiflow_join.spec (p q : RowT) (j : Int) : RowT × Int := joinS p q j
def subU (s t : Int) : Bool := IntKind.u64.wrap (((BitVec.ofInt IntKind.u64.bits s &&& ~~~BitVec.ofInt IntKind.u64.bits t).toNat : Nat) : Int) == 0
def dropG (t i : Int) : Int → List Int → Bool
 | _, [] => false
 | k, s :: l => (subU s t && s != t) || ((decide (k < i) && s == t) || dropG t i (k + 1) l)
def minG (sets : List Int) : Int → List RowT → List RowT
 | _, [] => []
 | i, r :: l => cond (dropG (suppB (rowX r)) i 0 sets) (minG sets (i + 1) l) (r :: minG sets (i + 1) l)
def minimalS (l : List RowT) : List RowT := minG (l.map fun r => suppB (rowX r)) 0 l
def semiflow_minimal.pre (l : List RowT) : Bool := bigL l && l.all semiflow_row_support.pre
def semiflow_minimal.spec (l : List RowT) : List RowT := minimalS l
def pairS (j : Int) (p : RowT) : List RowT → List RowT → List RowT × Int
 | acc, [] => (acc, 0)
 | acc, q :: l => cond (decide (q.1.getD j.toNat 0 < 0))
  (cond ((joinS p q j).2 == 0) (cond (decide (2000 < acc.length + 1)) (acc ++ [(joinS p q j).1], 14) (pairS j p (acc ++ [(joinS p q j).1]) l)) (acc ++ [(joinS p q j).1], (joinS p q j).2))
  (pairS j p acc l)
def pairsS (j : Int) (all : List RowT) : List RowT → List RowT → List RowT × Int
 | acc, [] => (acc, 0)
 | acc, p :: l => cond (decide (0 < p.1.getD j.toNat 0)) (cond ((pairS j p acc all).2 == 0) (pairsS j all (pairS j p acc all).1 l) (pairS j p acc all)) (pairsS j all acc l)
def zeroS (j : Int) (l : List RowT) : List RowT := l.filter fun r => r.1.getD j.toNat 0 == 0
def stepS (l : List RowT) (j : Int) : List RowT × Int := cond ((pairsS j l (zeroS j l) l).2 == 0) (minimalS (pairsS j l (zeroS j l) l).1, 0) ([], (pairsS j l (zeroS j l) l).2)
def semiflow_step.pre (l : List RowT) (j : Int) : Bool := decide (l.length ≤ 1000000) && decide (0 ≤ j) && l.all fun r => decide (r.1.length = (l.headD ([], 0)).1.length) && decide (r.2 = (l.headD ([], 0)).2) && decide (j < (r.1.length : Int)) && semiflow_row_support.pre r
def semiflow_step.spec (l : List RowT) (j : Int) : List RowT × Int := stepS l j
def insD (x : List Int) : List (List Int) → List (List Int)
 | [] => [x]
 | y :: l => cond (decide (0 < cmpL y x)) (y :: insD x l) (x :: y :: l)
def sortedG : List (List Int) → List RowT → List (List Int)
 | acc, [] => acc
 | acc, r :: l => sortedG (insD (rowX r) acc) l
def semiflow_sorted.pre (l : List RowT) : Bool := decide (l.length ≤ 1000000) && l.all fun r => decide (0 ≤ r.2) && decide (r.2 ≤ (r.1.length : Int)) && bigL r.1
def semiflow_sorted.spec (l : List RowT) : List (List Int) := sortedG [] l
def solveG : List RowT → Int → Nat → List RowT × Int
 | l, _, 0 => (l, 0)
 | l, j, n + 1 => cond ((stepS l j).2 == 0) (solveG (stepS l j).1 (j + 1) n) ([], (stepS l j).2)
def solveS (a : List (List Int)) : List (List Int) × Int := cond (validM a) (cond ((solveG (startS a) 0 a.length).2 == 0) (sortedG [] (solveG (startS a) 0 a.length).1, 0) ([], (solveG (startS a) 0 a.length).2)) ([], 2)
def semiflow_Solve.spec (a : List (List Int)) : List (List Int) × Int := solveS a
def smallA (a : List (List Int)) : Bool := decide (a.length ≤ 6) && decide ((a.headD []).length ≤ 6) && a.all fun r => r.all fun x => decide (-3 ≤ x) && decide (x ≤ 3)
def pf31_Small.pre (a : List (List Int)) : Bool := validM a
def pf31_Small.spec (a : List (List Int)) : Bool := smallA a
def modA (a : List (List Int)) : Bool := a.all fun r => r.all fun x => decide (-50 ≤ x) && decide (x ≤ 50)
def pl31_moderate.spec (a : List (List Int)) : Bool := modA a
def dotL : List Int → List Int → Int
 | x :: a, y :: b => x * y + dotL a b
 | _, _ => 0
def zeroA (a : List (List Int)) (x : List Int) : Bool := a.all fun r => Nat.beq r.length x.length && (x.all fun y => decide (0 ≤ y) && decide (y ≤ 1125899906842624)) && (dotL r x == 0)
def pl31_zero.pre (a : List (List Int)) (x : List Int) : Bool := modA a && decide (x.length ≤ 64)
def pl31_zero.spec (a : List (List Int)) (x : List Int) : Bool := zeroA a x
def insL : List Int → List Int → Bool
 | x :: a, y :: b => (x == 0 || !(y == 0)) && insL a b
 | [], [] => true
 | _, _ => false
def pl31_inside.spec (a b : List Int) : Bool := insL a b
def largeB (x : List Int) : Bool := x.any fun y => decide (1125899906842624 < y)
def pl31_large.spec (x : List Int) : Bool := largeB x
def pl31_gcd.pre (x : List Int) : Bool := x.all fun y => decide (0 ≤ y)
def pl31_gcd.spec (x : List Int) : Int := (gcdL x : Int)
def pl31_SemiflowMinimal.spec (a : List (List Int)) : Bool := true
def pl31_SemiflowCovers.spec (a : List (List Int)) (x : List Int) : Bool := true
def net_Name.ks : List K := [.str]
def net_Name.fent : Fent := ⟨net_Name.ks, fun α ds k => match ds with
 | [d0] => match d0.get (.str) with
  | some a0 => lt (net_Name.spec a0) fun r => k [.dat (.bool) r]
  | _ => none
 | _ => none⟩
def pf09_Name.ks : List K := [.str]
def pf09_Name.fent : Fent := ⟨pf09_Name.ks, fun α ds k => match ds with
 | [d0] => match d0.get (.str) with
  | some a0 => lt (pf09_Name.spec a0) fun r => k [.dat (.bool) r]
  | _ => none
 | _ => none⟩
def net_checkArcs.ks : List K := [.sl (.st (.pr (.int .i64) (.int .i64))), .int .i64]
def net_checkArcs.fent : Fent := ⟨net_checkArcs.ks, fun α ds k => match ds with
 | [d0, d1] => match d0.get (.sl (.st (.pr (.int .i64) (.int .i64)))), d1.get (.int .i64) with
  | some a0, some a1 => lt (net_checkArcs.spec a0 a1) fun r => k [.dat (.int .i64) r]
  | _, _ => none
 | _ => none⟩
def net_checkPlace.ks : List K := [.st (.pr (.str) (.pr (.int .i64) (.int .i64)))]
def net_checkPlace.fent : Fent := ⟨net_checkPlace.ks, fun α ds k => match ds with
 | [d0] => match d0.get (.st (.pr (.str) (.pr (.int .i64) (.int .i64)))) with
  | some a0 => lt (net_checkPlace.spec a0) fun r => k [.dat (.int .i64) r]
  | _ => none
 | _ => none⟩
def net_checkTrans.ks : List K := [.st (.pr (.str) (.pr (.sl (.st (.pr (.int .i64) (.int .i64)))) (.pr (.sl (.st (.pr (.int .i64) (.int .i64)))) (.pr (.sl (.st (.pr (.int .i64) (.int .i64)))) (.int .i64))))), .int .i64]
def net_checkTrans.fent : Fent := ⟨net_checkTrans.ks, fun α ds k => match ds with
 | [d0, d1] => match d0.get (.st (.pr (.str) (.pr (.sl (.st (.pr (.int .i64) (.int .i64)))) (.pr (.sl (.st (.pr (.int .i64) (.int .i64)))) (.pr (.sl (.st (.pr (.int .i64) (.int .i64)))) (.int .i64)))))), d1.get (.int .i64) with
  | some a0, some a1 => lt (net_checkTrans.spec a0 a1) fun r => k [.dat (.int .i64) r]
  | _, _ => none
 | _ => none⟩
def marking_Valid.ks : List K := [.sl (.int .i64), .int .i64]
def marking_Valid.fent : Fent := ⟨marking_Valid.ks, fun α ds k => match ds with
 | [d0, d1] => match d0.get (.sl (.int .i64)), d1.get (.int .i64) with
  | some a0, some a1 => lt (marking_Valid.spec a0 a1) fun r => k [.dat (.bool) r]
  | _, _ => none
 | _ => none⟩
def net_Check.ks : List K := [.st (.pr (.str) (.pr (.sl (.st (.pr (.str) (.pr (.int .i64) (.int .i64))))) (.sl (.st (.pr (.str) (.pr (.sl (.st (.pr (.int .i64) (.int .i64)))) (.pr (.sl (.st (.pr (.int .i64) (.int .i64)))) (.pr (.sl (.st (.pr (.int .i64) (.int .i64)))) (.int .i64)))))))))]
def net_Check.fent : Fent := ⟨net_Check.ks, fun α ds k => match ds with
 | [d0] => match d0.get (.st (.pr (.str) (.pr (.sl (.st (.pr (.str) (.pr (.int .i64) (.int .i64))))) (.sl (.st (.pr (.str) (.pr (.sl (.st (.pr (.int .i64) (.int .i64)))) (.pr (.sl (.st (.pr (.int .i64) (.int .i64)))) (.pr (.sl (.st (.pr (.int .i64) (.int .i64)))) (.int .i64)))))))))) with
  | some a0 => lt (net_Check.spec a0) fun r => k [.dat (.st (.pr (.int .i64) (.int .i64))) r]
  | _ => none
 | _ => none⟩
def pf09_Weight.ks : List K := [.sl (.st (.pr (.int .i64) (.int .i64))), .int .i64]
def pf09_Weight.fent : Fent := ⟨pf09_Weight.ks, fun α ds k => match ds with
 | [d0, d1] => match d0.get (.sl (.st (.pr (.int .i64) (.int .i64)))), d1.get (.int .i64) with
  | some a0, some a1 => lt (pf09_Weight.spec a0 a1) fun r => k [.dat (.int .i64) r]
  | _, _ => none
 | _ => none⟩
def pf09_arcs.ks : List K := [.st (.pr (.str) (.pr (.sl (.st (.pr (.str) (.pr (.int .i64) (.int .i64))))) (.sl (.st (.pr (.str) (.pr (.sl (.st (.pr (.int .i64) (.int .i64)))) (.pr (.sl (.st (.pr (.int .i64) (.int .i64)))) (.pr (.sl (.st (.pr (.int .i64) (.int .i64)))) (.int .i64))))))))), .sl (.st (.pr (.int .i64) (.int .i64)))]
def pf09_arcs.fent : Fent := ⟨pf09_arcs.ks, fun α ds k => match ds with
 | [d0, d1] => match d0.get (.st (.pr (.str) (.pr (.sl (.st (.pr (.str) (.pr (.int .i64) (.int .i64))))) (.sl (.st (.pr (.str) (.pr (.sl (.st (.pr (.int .i64) (.int .i64)))) (.pr (.sl (.st (.pr (.int .i64) (.int .i64)))) (.pr (.sl (.st (.pr (.int .i64) (.int .i64)))) (.int .i64)))))))))), d1.get (.sl (.st (.pr (.int .i64) (.int .i64)))) with
  | some a0, some a1 => lt (pf09_arcs.spec a0 a1) fun r => k [.dat (.int .i64) r]
  | _, _ => none
 | _ => none⟩
def pf09_place.ks : List K := [.st (.pr (.str) (.pr (.sl (.st (.pr (.str) (.pr (.int .i64) (.int .i64))))) (.sl (.st (.pr (.str) (.pr (.sl (.st (.pr (.int .i64) (.int .i64)))) (.pr (.sl (.st (.pr (.int .i64) (.int .i64)))) (.pr (.sl (.st (.pr (.int .i64) (.int .i64)))) (.int .i64))))))))), .int .i64]
def pf09_place.fent : Fent := ⟨pf09_place.ks, fun α ds k => match ds with
 | [d0, d1] => match d0.get (.st (.pr (.str) (.pr (.sl (.st (.pr (.str) (.pr (.int .i64) (.int .i64))))) (.sl (.st (.pr (.str) (.pr (.sl (.st (.pr (.int .i64) (.int .i64)))) (.pr (.sl (.st (.pr (.int .i64) (.int .i64)))) (.pr (.sl (.st (.pr (.int .i64) (.int .i64)))) (.int .i64)))))))))), d1.get (.int .i64) with
  | some a0, some a1 => cond (pf09_place.pre a0 a1) (lt (pf09_place.spec a0 a1) fun r => k [.dat (.int .i64) r]) none
  | _, _ => none
 | _ => none⟩
def pf09_trans.ks : List K := [.st (.pr (.str) (.pr (.sl (.st (.pr (.str) (.pr (.int .i64) (.int .i64))))) (.sl (.st (.pr (.str) (.pr (.sl (.st (.pr (.int .i64) (.int .i64)))) (.pr (.sl (.st (.pr (.int .i64) (.int .i64)))) (.pr (.sl (.st (.pr (.int .i64) (.int .i64)))) (.int .i64))))))))), .int .i64]
def pf09_trans.fent : Fent := ⟨pf09_trans.ks, fun α ds k => match ds with
 | [d0, d1] => match d0.get (.st (.pr (.str) (.pr (.sl (.st (.pr (.str) (.pr (.int .i64) (.int .i64))))) (.sl (.st (.pr (.str) (.pr (.sl (.st (.pr (.int .i64) (.int .i64)))) (.pr (.sl (.st (.pr (.int .i64) (.int .i64)))) (.pr (.sl (.st (.pr (.int .i64) (.int .i64)))) (.int .i64)))))))))), d1.get (.int .i64) with
  | some a0, some a1 => cond (pf09_trans.pre a0 a1) (lt (pf09_trans.spec a0 a1) fun r => k [.dat (.int .i64) r]) none
  | _, _ => none
 | _ => none⟩
def pf09_Check.ks : List K := [.st (.pr (.str) (.pr (.sl (.st (.pr (.str) (.pr (.int .i64) (.int .i64))))) (.sl (.st (.pr (.str) (.pr (.sl (.st (.pr (.int .i64) (.int .i64)))) (.pr (.sl (.st (.pr (.int .i64) (.int .i64)))) (.pr (.sl (.st (.pr (.int .i64) (.int .i64)))) (.int .i64)))))))))]
def pf09_Check.fent : Fent := ⟨pf09_Check.ks, fun α ds k => match ds with
 | [d0] => match d0.get (.st (.pr (.str) (.pr (.sl (.st (.pr (.str) (.pr (.int .i64) (.int .i64))))) (.sl (.st (.pr (.str) (.pr (.sl (.st (.pr (.int .i64) (.int .i64)))) (.pr (.sl (.st (.pr (.int .i64) (.int .i64)))) (.pr (.sl (.st (.pr (.int .i64) (.int .i64)))) (.int .i64)))))))))) with
  | some a0 => lt (pf09_Check.spec a0) fun r => k [.dat (.st (.pr (.int .i64) (.int .i64))) r]
  | _ => none
 | _ => none⟩
def net_valid.ks : List K := [.st (.pr (.str) (.pr (.sl (.st (.pr (.str) (.pr (.int .i64) (.int .i64))))) (.sl (.st (.pr (.str) (.pr (.sl (.st (.pr (.int .i64) (.int .i64)))) (.pr (.sl (.st (.pr (.int .i64) (.int .i64)))) (.pr (.sl (.st (.pr (.int .i64) (.int .i64)))) (.int .i64)))))))))]
def net_valid.fent : Fent := ⟨net_valid.ks, fun α ds k => match ds with
 | [d0] => match d0.get (.st (.pr (.str) (.pr (.sl (.st (.pr (.str) (.pr (.int .i64) (.int .i64))))) (.sl (.st (.pr (.str) (.pr (.sl (.st (.pr (.int .i64) (.int .i64)))) (.pr (.sl (.st (.pr (.int .i64) (.int .i64)))) (.pr (.sl (.st (.pr (.int .i64) (.int .i64)))) (.int .i64)))))))))) with
  | some a0 => lt (net_valid.spec a0) fun r => k [.dat (.bool) r]
  | _ => none
 | _ => none⟩
def pf09_Valid.ks : List K := [.st (.pr (.str) (.pr (.sl (.st (.pr (.str) (.pr (.int .i64) (.int .i64))))) (.sl (.st (.pr (.str) (.pr (.sl (.st (.pr (.int .i64) (.int .i64)))) (.pr (.sl (.st (.pr (.int .i64) (.int .i64)))) (.pr (.sl (.st (.pr (.int .i64) (.int .i64)))) (.int .i64)))))))))]
def pf09_Valid.fent : Fent := ⟨pf09_Valid.ks, fun α ds k => match ds with
 | [d0] => match d0.get (.st (.pr (.str) (.pr (.sl (.st (.pr (.str) (.pr (.int .i64) (.int .i64))))) (.sl (.st (.pr (.str) (.pr (.sl (.st (.pr (.int .i64) (.int .i64)))) (.pr (.sl (.st (.pr (.int .i64) (.int .i64)))) (.pr (.sl (.st (.pr (.int .i64) (.int .i64)))) (.int .i64)))))))))) with
  | some a0 => lt (pf09_Valid.spec a0) fun r => k [.dat (.bool) r]
  | _ => none
 | _ => none⟩
def net_Place.ks : List K := [.st (.pr (.str) (.pr (.sl (.st (.pr (.str) (.pr (.int .i64) (.int .i64))))) (.sl (.st (.pr (.str) (.pr (.sl (.st (.pr (.int .i64) (.int .i64)))) (.pr (.sl (.st (.pr (.int .i64) (.int .i64)))) (.pr (.sl (.st (.pr (.int .i64) (.int .i64)))) (.int .i64))))))))), .str]
def net_Place.fent : Fent := ⟨net_Place.ks, fun α ds k => match ds with
 | [d0, d1] => match d0.get (.st (.pr (.str) (.pr (.sl (.st (.pr (.str) (.pr (.int .i64) (.int .i64))))) (.sl (.st (.pr (.str) (.pr (.sl (.st (.pr (.int .i64) (.int .i64)))) (.pr (.sl (.st (.pr (.int .i64) (.int .i64)))) (.pr (.sl (.st (.pr (.int .i64) (.int .i64)))) (.int .i64)))))))))), d1.get (.str) with
  | some a0, some a1 => lt (net_Place.spec a0 a1) fun r => k [.dat (.int .i64) r]
  | _, _ => none
 | _ => none⟩
def net_Trans.ks : List K := [.st (.pr (.str) (.pr (.sl (.st (.pr (.str) (.pr (.int .i64) (.int .i64))))) (.sl (.st (.pr (.str) (.pr (.sl (.st (.pr (.int .i64) (.int .i64)))) (.pr (.sl (.st (.pr (.int .i64) (.int .i64)))) (.pr (.sl (.st (.pr (.int .i64) (.int .i64)))) (.int .i64))))))))), .str]
def net_Trans.fent : Fent := ⟨net_Trans.ks, fun α ds k => match ds with
 | [d0, d1] => match d0.get (.st (.pr (.str) (.pr (.sl (.st (.pr (.str) (.pr (.int .i64) (.int .i64))))) (.sl (.st (.pr (.str) (.pr (.sl (.st (.pr (.int .i64) (.int .i64)))) (.pr (.sl (.st (.pr (.int .i64) (.int .i64)))) (.pr (.sl (.st (.pr (.int .i64) (.int .i64)))) (.int .i64)))))))))), d1.get (.str) with
  | some a0, some a1 => lt (net_Trans.spec a0 a1) fun r => k [.dat (.int .i64) r]
  | _, _ => none
 | _ => none⟩
def net_Plain.ks : List K := [.st (.pr (.str) (.pr (.sl (.st (.pr (.str) (.pr (.int .i64) (.int .i64))))) (.sl (.st (.pr (.str) (.pr (.sl (.st (.pr (.int .i64) (.int .i64)))) (.pr (.sl (.st (.pr (.int .i64) (.int .i64)))) (.pr (.sl (.st (.pr (.int .i64) (.int .i64)))) (.int .i64)))))))))]
def net_Plain.fent : Fent := ⟨net_Plain.ks, fun α ds k => match ds with
 | [d0] => match d0.get (.st (.pr (.str) (.pr (.sl (.st (.pr (.str) (.pr (.int .i64) (.int .i64))))) (.sl (.st (.pr (.str) (.pr (.sl (.st (.pr (.int .i64) (.int .i64)))) (.pr (.sl (.st (.pr (.int .i64) (.int .i64)))) (.pr (.sl (.st (.pr (.int .i64) (.int .i64)))) (.int .i64)))))))))) with
  | some a0 => lt (net_Plain.spec a0) fun r => k [.dat (.bool) r]
  | _ => none
 | _ => none⟩
def pf09_Plain.ks : List K := [.st (.pr (.str) (.pr (.sl (.st (.pr (.str) (.pr (.int .i64) (.int .i64))))) (.sl (.st (.pr (.str) (.pr (.sl (.st (.pr (.int .i64) (.int .i64)))) (.pr (.sl (.st (.pr (.int .i64) (.int .i64)))) (.pr (.sl (.st (.pr (.int .i64) (.int .i64)))) (.int .i64)))))))))]
def pf09_Plain.fent : Fent := ⟨pf09_Plain.ks, fun α ds k => match ds with
 | [d0] => match d0.get (.st (.pr (.str) (.pr (.sl (.st (.pr (.str) (.pr (.int .i64) (.int .i64))))) (.sl (.st (.pr (.str) (.pr (.sl (.st (.pr (.int .i64) (.int .i64)))) (.pr (.sl (.st (.pr (.int .i64) (.int .i64)))) (.pr (.sl (.st (.pr (.int .i64) (.int .i64)))) (.int .i64)))))))))) with
  | some a0 => lt (pf09_Plain.spec a0) fun r => k [.dat (.bool) r]
  | _ => none
 | _ => none⟩
def tf_Start.ks : List K := [.st (.pr (.str) (.pr (.sl (.st (.pr (.str) (.pr (.int .i64) (.int .i64))))) (.sl (.st (.pr (.str) (.pr (.sl (.st (.pr (.int .i64) (.int .i64)))) (.pr (.sl (.st (.pr (.int .i64) (.int .i64)))) (.pr (.sl (.st (.pr (.int .i64) (.int .i64)))) (.int .i64))))))))), .sl (.int .i64)]
def tf_Start.fent : Fent := ⟨tf_Start.ks, fun α ds k => match ds with
 | [d0, d1] => match d0.get (.st (.pr (.str) (.pr (.sl (.st (.pr (.str) (.pr (.int .i64) (.int .i64))))) (.sl (.st (.pr (.str) (.pr (.sl (.st (.pr (.int .i64) (.int .i64)))) (.pr (.sl (.st (.pr (.int .i64) (.int .i64)))) (.pr (.sl (.st (.pr (.int .i64) (.int .i64)))) (.int .i64)))))))))), d1.get (.sl (.int .i64)) with
  | some a0, some a1 => lt (tf_Start.spec a0 a1) fun r => k [.dat (.st (.pr (.str) (.pr (.sl (.st (.pr (.str) (.pr (.int .i64) (.int .i64))))) (.sl (.st (.pr (.str) (.pr (.sl (.st (.pr (.int .i64) (.int .i64)))) (.pr (.sl (.st (.pr (.int .i64) (.int .i64)))) (.pr (.sl (.st (.pr (.int .i64) (.int .i64)))) (.int .i64)))))))))) r.1, .dat (.int .i64) r.2]
  | _, _ => none
 | _ => none⟩
def pf12_Start.ks : List K := [.st (.pr (.str) (.pr (.sl (.st (.pr (.str) (.pr (.int .i64) (.int .i64))))) (.sl (.st (.pr (.str) (.pr (.sl (.st (.pr (.int .i64) (.int .i64)))) (.pr (.sl (.st (.pr (.int .i64) (.int .i64)))) (.pr (.sl (.st (.pr (.int .i64) (.int .i64)))) (.int .i64))))))))), .sl (.int .i64)]
def pf12_Start.fent : Fent := ⟨pf12_Start.ks, fun α ds k => match ds with
 | [d0, d1] => match d0.get (.st (.pr (.str) (.pr (.sl (.st (.pr (.str) (.pr (.int .i64) (.int .i64))))) (.sl (.st (.pr (.str) (.pr (.sl (.st (.pr (.int .i64) (.int .i64)))) (.pr (.sl (.st (.pr (.int .i64) (.int .i64)))) (.pr (.sl (.st (.pr (.int .i64) (.int .i64)))) (.int .i64)))))))))), d1.get (.sl (.int .i64)) with
  | some a0, some a1 => lt (pf12_Start.spec a0 a1) fun r => k [.dat (.st (.pr (.str) (.pr (.sl (.st (.pr (.str) (.pr (.int .i64) (.int .i64))))) (.sl (.st (.pr (.str) (.pr (.sl (.st (.pr (.int .i64) (.int .i64)))) (.pr (.sl (.st (.pr (.int .i64) (.int .i64)))) (.pr (.sl (.st (.pr (.int .i64) (.int .i64)))) (.int .i64)))))))))) r.1, .dat (.int .i64) r.2]
  | _, _ => none
 | _ => none⟩
def tf_Reverse.ks : List K := [.st (.pr (.str) (.pr (.sl (.st (.pr (.str) (.pr (.int .i64) (.int .i64))))) (.sl (.st (.pr (.str) (.pr (.sl (.st (.pr (.int .i64) (.int .i64)))) (.pr (.sl (.st (.pr (.int .i64) (.int .i64)))) (.pr (.sl (.st (.pr (.int .i64) (.int .i64)))) (.int .i64)))))))))]
def tf_Reverse.fent : Fent := ⟨tf_Reverse.ks, fun α ds k => match ds with
 | [d0] => match d0.get (.st (.pr (.str) (.pr (.sl (.st (.pr (.str) (.pr (.int .i64) (.int .i64))))) (.sl (.st (.pr (.str) (.pr (.sl (.st (.pr (.int .i64) (.int .i64)))) (.pr (.sl (.st (.pr (.int .i64) (.int .i64)))) (.pr (.sl (.st (.pr (.int .i64) (.int .i64)))) (.int .i64)))))))))) with
  | some a0 => lt (tf_Reverse.spec a0) fun r => k [.dat (.st (.pr (.str) (.pr (.sl (.st (.pr (.str) (.pr (.int .i64) (.int .i64))))) (.sl (.st (.pr (.str) (.pr (.sl (.st (.pr (.int .i64) (.int .i64)))) (.pr (.sl (.st (.pr (.int .i64) (.int .i64)))) (.pr (.sl (.st (.pr (.int .i64) (.int .i64)))) (.int .i64)))))))))) r.1, .dat (.int .i64) r.2]
  | _ => none
 | _ => none⟩
def pf12_Reverse.ks : List K := [.st (.pr (.str) (.pr (.sl (.st (.pr (.str) (.pr (.int .i64) (.int .i64))))) (.sl (.st (.pr (.str) (.pr (.sl (.st (.pr (.int .i64) (.int .i64)))) (.pr (.sl (.st (.pr (.int .i64) (.int .i64)))) (.pr (.sl (.st (.pr (.int .i64) (.int .i64)))) (.int .i64)))))))))]
def pf12_Reverse.fent : Fent := ⟨pf12_Reverse.ks, fun α ds k => match ds with
 | [d0] => match d0.get (.st (.pr (.str) (.pr (.sl (.st (.pr (.str) (.pr (.int .i64) (.int .i64))))) (.sl (.st (.pr (.str) (.pr (.sl (.st (.pr (.int .i64) (.int .i64)))) (.pr (.sl (.st (.pr (.int .i64) (.int .i64)))) (.pr (.sl (.st (.pr (.int .i64) (.int .i64)))) (.int .i64)))))))))) with
  | some a0 => lt (pf12_Reverse.spec a0) fun r => k [.dat (.st (.pr (.str) (.pr (.sl (.st (.pr (.str) (.pr (.int .i64) (.int .i64))))) (.sl (.st (.pr (.str) (.pr (.sl (.st (.pr (.int .i64) (.int .i64)))) (.pr (.sl (.st (.pr (.int .i64) (.int .i64)))) (.pr (.sl (.st (.pr (.int .i64) (.int .i64)))) (.int .i64)))))))))) r.1, .dat (.int .i64) r.2]
  | _ => none
 | _ => none⟩
def pf04_Valid.ks : List K := [.sl (.int .i64), .int .i64]
def pf04_Valid.fent : Fent := ⟨pf04_Valid.ks, fun α ds k => match ds with
 | [d0, d1] => match d0.get (.sl (.int .i64)), d1.get (.int .i64) with
  | some a0, some a1 => lt (pf04_Valid.spec a0 a1) fun r => k [.dat (.bool) r]
  | _, _ => none
 | _ => none⟩
def pf04_Same.ks : List K := [.sl (.int .i64), .sl (.int .i64)]
def pf04_Same.fent : Fent := ⟨pf04_Same.ks, fun α ds k => match ds with
 | [d0, d1] => match d0.get (.sl (.int .i64)), d1.get (.sl (.int .i64)) with
  | some a0, some a1 => lt (pf04_Same.spec a0 a1) fun r => k [.dat (.bool) r]
  | _, _ => none
 | _ => none⟩
def tf_clone.ks : List K := [.sl (.st (.pr (.int .i64) (.int .i64)))]
def tf_clone.fent : Fent := ⟨tf_clone.ks, fun α ds k => match ds with
 | [d0] => match d0.get (.sl (.st (.pr (.int .i64) (.int .i64)))) with
  | some a0 => cond (tf_clone.pre a0) (lt (tf_clone.spec a0) fun r => k [.own (.st (.pr (.int .i64) (.int .i64))) r]) none
  | _ => none
 | _ => none⟩
def pf12_copied.ks : List K := [.sl (.st (.pr (.int .i64) (.int .i64)))]
def pf12_copied.fent : Fent := ⟨pf12_copied.ks, fun α ds k => match ds with
 | [d0] => match d0.get (.sl (.st (.pr (.int .i64) (.int .i64)))) with
  | some a0 => cond (pf12_copied.pre a0) (lt (pf12_copied.spec a0) fun r => k [.own (.st (.pr (.int .i64) (.int .i64))) r]) none
  | _ => none
 | _ => none⟩
def tf_weight.ks : List K := [.sl (.st (.pr (.int .i64) (.int .i64))), .int .i64]
def tf_weight.fent : Fent := ⟨tf_weight.ks, fun α ds k => match ds with
 | [d0, d1] => match d0.get (.sl (.st (.pr (.int .i64) (.int .i64)))), d1.get (.int .i64) with
  | some a0, some a1 => lt (tf_weight.spec a0 a1) fun r => k [.dat (.int .i64) r]
  | _, _ => none
 | _ => none⟩
def tf_samePlace.ks : List K := [.int .i64, .st (.pr (.str) (.pr (.int .i64) (.int .i64)))]
def tf_samePlace.fent : Fent := ⟨tf_samePlace.ks, fun α ds k => match ds with
 | [d0, d1] => match d0.get (.int .i64), d1.get (.st (.pr (.str) (.pr (.int .i64) (.int .i64)))) with
  | some a0, some a1 => lt (tf_samePlace.spec a0 a1) fun r => k [.dat (.st (.pr (.str) (.pr (.int .i64) (.int .i64)))) r]
  | _, _ => none
 | _ => none⟩
def tf_Reverse_1.ks : List K := [.st (.pr (.str) (.pr (.sl (.st (.pr (.int .i64) (.int .i64)))) (.pr (.sl (.st (.pr (.int .i64) (.int .i64)))) (.pr (.sl (.st (.pr (.int .i64) (.int .i64)))) (.int .i64)))))]
def tf_Reverse_1.fent : Fent := ⟨tf_Reverse_1.ks, fun α ds k => match ds with
 | [d0] => match d0.get (.st (.pr (.str) (.pr (.sl (.st (.pr (.int .i64) (.int .i64)))) (.pr (.sl (.st (.pr (.int .i64) (.int .i64)))) (.pr (.sl (.st (.pr (.int .i64) (.int .i64)))) (.int .i64)))))) with
  | some a0 => lt (tf_Reverse_1.spec a0) fun r => k [.dat (.st (.pr (.str) (.pr (.sl (.st (.pr (.int .i64) (.int .i64)))) (.pr (.sl (.st (.pr (.int .i64) (.int .i64)))) (.pr (.sl (.st (.pr (.int .i64) (.int .i64)))) (.int .i64)))))) r]
  | _ => none
 | _ => none⟩
def tf_Start_1.ks : List K := [.int .i64, .st (.pr (.str) (.pr (.int .i64) (.int .i64))), .ref (.sl (.int .i64))]
def tf_Start_1.fent : Fent := ⟨tf_Start_1.ks, fun α ds k => match ds with
 | [d0, d1, d2] => match d0.get (.int .i64), d1.get (.st (.pr (.str) (.pr (.int .i64) (.int .i64)))), d2.get (.ref (.sl (.int .i64))) with
  | some a0, some a1, some a2 => cond (tf_Start_1.pre a0 a1 a2) (lt (tf_Start_1.spec a0 a1 a2) fun r => k [.dat (.st (.pr (.str) (.pr (.int .i64) (.int .i64)))) r]) none
  | _, _, _ => none
 | _ => none⟩
def tf_Start_2.ks : List K := [.st (.pr (.str) (.pr (.sl (.st (.pr (.int .i64) (.int .i64)))) (.pr (.sl (.st (.pr (.int .i64) (.int .i64)))) (.pr (.sl (.st (.pr (.int .i64) (.int .i64)))) (.int .i64)))))]
def tf_Start_2.fent : Fent := ⟨tf_Start_2.ks, fun α ds k => match ds with
 | [d0] => match d0.get (.st (.pr (.str) (.pr (.sl (.st (.pr (.int .i64) (.int .i64)))) (.pr (.sl (.st (.pr (.int .i64) (.int .i64)))) (.pr (.sl (.st (.pr (.int .i64) (.int .i64)))) (.int .i64)))))) with
  | some a0 => lt (tf_Start_2.spec a0) fun r => k [.dat (.st (.pr (.str) (.pr (.sl (.st (.pr (.int .i64) (.int .i64)))) (.pr (.sl (.st (.pr (.int .i64) (.int .i64)))) (.pr (.sl (.st (.pr (.int .i64) (.int .i64)))) (.int .i64)))))) r]
  | _ => none
 | _ => none⟩
def tf_Union_2.ks : List K := [.st (.pr (.str) (.pr (.sl (.st (.pr (.int .i64) (.int .i64)))) (.pr (.sl (.st (.pr (.int .i64) (.int .i64)))) (.pr (.sl (.st (.pr (.int .i64) (.int .i64)))) (.int .i64)))))]
def tf_Union_2.fent : Fent := ⟨tf_Union_2.ks, fun α ds k => match ds with
 | [d0] => match d0.get (.st (.pr (.str) (.pr (.sl (.st (.pr (.int .i64) (.int .i64)))) (.pr (.sl (.st (.pr (.int .i64) (.int .i64)))) (.pr (.sl (.st (.pr (.int .i64) (.int .i64)))) (.int .i64)))))) with
  | some a0 => lt (tf_Union_2.spec a0) fun r => k [.dat (.st (.pr (.str) (.pr (.sl (.st (.pr (.int .i64) (.int .i64)))) (.pr (.sl (.st (.pr (.int .i64) (.int .i64)))) (.pr (.sl (.st (.pr (.int .i64) (.int .i64)))) (.int .i64)))))) r]
  | _ => none
 | _ => none⟩
def tf_Union_1.ks : List K := [.str, .ref (.st (.pr (.str) (.pr (.sl (.st (.pr (.str) (.pr (.int .i64) (.int .i64))))) (.sl (.st (.pr (.str) (.pr (.sl (.st (.pr (.int .i64) (.int .i64)))) (.pr (.sl (.st (.pr (.int .i64) (.int .i64)))) (.pr (.sl (.st (.pr (.int .i64) (.int .i64)))) (.int .i64))))))))))]
def tf_Union_1.fent : Fent := ⟨tf_Union_1.ks, fun α ds k => match ds with
 | [d0, d1] => match d0.get (.str), d1.get (.ref (.st (.pr (.str) (.pr (.sl (.st (.pr (.str) (.pr (.int .i64) (.int .i64))))) (.sl (.st (.pr (.str) (.pr (.sl (.st (.pr (.int .i64) (.int .i64)))) (.pr (.sl (.st (.pr (.int .i64) (.int .i64)))) (.pr (.sl (.st (.pr (.int .i64) (.int .i64)))) (.int .i64))))))))))) with
  | some a0, some a1 => lt (tf_Union_1.spec a0 a1) fun r => k [.dat (.bool) r]
  | _, _ => none
 | _ => none⟩
def tf_shift.ks : List K := [.sl (.st (.pr (.int .i64) (.int .i64))), .int .i64]
def tf_shift.fent : Fent := ⟨tf_shift.ks, fun α ds k => match ds with
 | [d0, d1] => match d0.get (.sl (.st (.pr (.int .i64) (.int .i64)))), d1.get (.int .i64) with
  | some a0, some a1 => cond (tf_shift.pre a0 a1) (lt (tf_shift.spec a0 a1) fun r => k [.own (.st (.pr (.int .i64) (.int .i64))) r]) none
  | _, _ => none
 | _ => none⟩
def pf12_moved.ks : List K := [.sl (.st (.pr (.int .i64) (.int .i64))), .int .i64]
def pf12_moved.fent : Fent := ⟨pf12_moved.ks, fun α ds k => match ds with
 | [d0, d1] => match d0.get (.sl (.st (.pr (.int .i64) (.int .i64)))), d1.get (.int .i64) with
  | some a0, some a1 => cond (pf12_moved.pre a0 a1) (lt (pf12_moved.spec a0 a1) fun r => k [.own (.st (.pr (.int .i64) (.int .i64))) r]) none
  | _, _ => none
 | _ => none⟩
def pf12_known.ks : List K := [.st (.pr (.str) (.pr (.sl (.st (.pr (.str) (.pr (.int .i64) (.int .i64))))) (.sl (.st (.pr (.str) (.pr (.sl (.st (.pr (.int .i64) (.int .i64)))) (.pr (.sl (.st (.pr (.int .i64) (.int .i64)))) (.pr (.sl (.st (.pr (.int .i64) (.int .i64)))) (.int .i64))))))))), .str]
def pf12_known.fent : Fent := ⟨pf12_known.ks, fun α ds k => match ds with
 | [d0, d1] => match d0.get (.st (.pr (.str) (.pr (.sl (.st (.pr (.str) (.pr (.int .i64) (.int .i64))))) (.sl (.st (.pr (.str) (.pr (.sl (.st (.pr (.int .i64) (.int .i64)))) (.pr (.sl (.st (.pr (.int .i64) (.int .i64)))) (.pr (.sl (.st (.pr (.int .i64) (.int .i64)))) (.int .i64)))))))))), d1.get (.str) with
  | some a0, some a1 => lt (pf12_known.spec a0 a1) fun r => k [.dat (.bool) r]
  | _, _ => none
 | _ => none⟩
def bitset_Has.ks : List K := [.int .u64, .int .i64]
def bitset_Has.fent : Fent := ⟨bitset_Has.ks, fun α ds k => match ds with
 | [d0, d1] => match d0.get (.int .u64), d1.get (.int .i64) with
  | some a0, some a1 => lt (bitset_Has.spec a0 a1) fun r => k [.dat (.bool) r]
  | _, _ => none
 | _ => none⟩
def pf06_Has.ks : List K := [.int .u64, .int .i64]
def pf06_Has.fent : Fent := ⟨pf06_Has.ks, fun α ds k => match ds with
 | [d0, d1] => match d0.get (.int .u64), d1.get (.int .i64) with
  | some a0, some a1 => lt (pf06_Has.spec a0 a1) fun r => k [.dat (.bool) r]
  | _, _ => none
 | _ => none⟩
def pf12_rank.ks : List K := [.int .u64, .int .i64]
def pf12_rank.fent : Fent := ⟨pf12_rank.ks, fun α ds k => match ds with
 | [d0, d1] => match d0.get (.int .u64), d1.get (.int .i64) with
  | some a0, some a1 => lt (pf12_rank.spec a0 a1) fun r => k [.dat (.int .i64) r]
  | _, _ => none
 | _ => none⟩
def pf12_kept.ks : List K := [.sl (.st (.pr (.int .i64) (.int .i64))), .int .u64]
def pf12_kept.fent : Fent := ⟨pf12_kept.ks, fun α ds k => match ds with
 | [d0, d1] => match d0.get (.sl (.st (.pr (.int .i64) (.int .i64)))), d1.get (.int .u64) with
  | some a0, some a1 => cond (pf12_kept.pre a0 a1) (lt (pf12_kept.spec a0 a1) fun r => k [.own (.st (.pr (.int .i64) (.int .i64))) r]) none
  | _, _ => none
 | _ => none⟩
def tf_Subnet_1.ks : List K := [.sl (.st (.pr (.int .i64) (.int .i64))), .ref (.sl (.int .i64))]
def tf_Subnet_1.fent : Fent := ⟨tf_Subnet_1.ks, fun α ds k => match ds with
 | [d0, d1] => match d0.get (.sl (.st (.pr (.int .i64) (.int .i64)))), d1.get (.ref (.sl (.int .i64))) with
  | some a0, some a1 => cond (tf_Subnet_1.pre a0 a1) (lt (tf_Subnet_1.spec a0 a1) fun r => k [.own (.st (.pr (.int .i64) (.int .i64))) r]) none
  | _, _ => none
 | _ => none⟩
def tf_Subnet.ks : List K := [.st (.pr (.str) (.pr (.sl (.st (.pr (.str) (.pr (.int .i64) (.int .i64))))) (.sl (.st (.pr (.str) (.pr (.sl (.st (.pr (.int .i64) (.int .i64)))) (.pr (.sl (.st (.pr (.int .i64) (.int .i64)))) (.pr (.sl (.st (.pr (.int .i64) (.int .i64)))) (.int .i64))))))))), .int .u64, .int .u64]
def tf_Subnet.fent : Fent := ⟨tf_Subnet.ks, fun α ds k => match ds with
 | [d0, d1, d2] => match d0.get (.st (.pr (.str) (.pr (.sl (.st (.pr (.str) (.pr (.int .i64) (.int .i64))))) (.sl (.st (.pr (.str) (.pr (.sl (.st (.pr (.int .i64) (.int .i64)))) (.pr (.sl (.st (.pr (.int .i64) (.int .i64)))) (.pr (.sl (.st (.pr (.int .i64) (.int .i64)))) (.int .i64)))))))))), d1.get (.int .u64), d2.get (.int .u64) with
  | some a0, some a1, some a2 => lt (tf_Subnet.spec a0 a1 a2) fun r => k [.dat (.st (.pr (.str) (.pr (.sl (.st (.pr (.str) (.pr (.int .i64) (.int .i64))))) (.sl (.st (.pr (.str) (.pr (.sl (.st (.pr (.int .i64) (.int .i64)))) (.pr (.sl (.st (.pr (.int .i64) (.int .i64)))) (.pr (.sl (.st (.pr (.int .i64) (.int .i64)))) (.int .i64)))))))))) r.1, .dat (.int .i64) r.2]
  | _, _, _ => none
 | _ => none⟩
def pf12_Subnet.ks : List K := [.st (.pr (.str) (.pr (.sl (.st (.pr (.str) (.pr (.int .i64) (.int .i64))))) (.sl (.st (.pr (.str) (.pr (.sl (.st (.pr (.int .i64) (.int .i64)))) (.pr (.sl (.st (.pr (.int .i64) (.int .i64)))) (.pr (.sl (.st (.pr (.int .i64) (.int .i64)))) (.int .i64))))))))), .int .u64, .int .u64]
def pf12_Subnet.fent : Fent := ⟨pf12_Subnet.ks, fun α ds k => match ds with
 | [d0, d1, d2] => match d0.get (.st (.pr (.str) (.pr (.sl (.st (.pr (.str) (.pr (.int .i64) (.int .i64))))) (.sl (.st (.pr (.str) (.pr (.sl (.st (.pr (.int .i64) (.int .i64)))) (.pr (.sl (.st (.pr (.int .i64) (.int .i64)))) (.pr (.sl (.st (.pr (.int .i64) (.int .i64)))) (.int .i64)))))))))), d1.get (.int .u64), d2.get (.int .u64) with
  | some a0, some a1, some a2 => lt (pf12_Subnet.spec a0 a1 a2) fun r => k [.dat (.st (.pr (.str) (.pr (.sl (.st (.pr (.str) (.pr (.int .i64) (.int .i64))))) (.sl (.st (.pr (.str) (.pr (.sl (.st (.pr (.int .i64) (.int .i64)))) (.pr (.sl (.st (.pr (.int .i64) (.int .i64)))) (.pr (.sl (.st (.pr (.int .i64) (.int .i64)))) (.int .i64)))))))))) r.1, .dat (.int .i64) r.2]
  | _, _, _ => none
 | _ => none⟩
def tf_Union.ks : List K := [.st (.pr (.str) (.pr (.sl (.st (.pr (.str) (.pr (.int .i64) (.int .i64))))) (.sl (.st (.pr (.str) (.pr (.sl (.st (.pr (.int .i64) (.int .i64)))) (.pr (.sl (.st (.pr (.int .i64) (.int .i64)))) (.pr (.sl (.st (.pr (.int .i64) (.int .i64)))) (.int .i64))))))))), .st (.pr (.str) (.pr (.sl (.st (.pr (.str) (.pr (.int .i64) (.int .i64))))) (.sl (.st (.pr (.str) (.pr (.sl (.st (.pr (.int .i64) (.int .i64)))) (.pr (.sl (.st (.pr (.int .i64) (.int .i64)))) (.pr (.sl (.st (.pr (.int .i64) (.int .i64)))) (.int .i64)))))))))]
def tf_Union.fent : Fent := ⟨tf_Union.ks, fun α ds k => match ds with
 | [d0, d1] => match d0.get (.st (.pr (.str) (.pr (.sl (.st (.pr (.str) (.pr (.int .i64) (.int .i64))))) (.sl (.st (.pr (.str) (.pr (.sl (.st (.pr (.int .i64) (.int .i64)))) (.pr (.sl (.st (.pr (.int .i64) (.int .i64)))) (.pr (.sl (.st (.pr (.int .i64) (.int .i64)))) (.int .i64)))))))))), d1.get (.st (.pr (.str) (.pr (.sl (.st (.pr (.str) (.pr (.int .i64) (.int .i64))))) (.sl (.st (.pr (.str) (.pr (.sl (.st (.pr (.int .i64) (.int .i64)))) (.pr (.sl (.st (.pr (.int .i64) (.int .i64)))) (.pr (.sl (.st (.pr (.int .i64) (.int .i64)))) (.int .i64)))))))))) with
  | some a0, some a1 => lt (tf_Union.spec a0 a1) fun r => k [.dat (.st (.pr (.str) (.pr (.sl (.st (.pr (.str) (.pr (.int .i64) (.int .i64))))) (.sl (.st (.pr (.str) (.pr (.sl (.st (.pr (.int .i64) (.int .i64)))) (.pr (.sl (.st (.pr (.int .i64) (.int .i64)))) (.pr (.sl (.st (.pr (.int .i64) (.int .i64)))) (.int .i64)))))))))) r.1, .dat (.int .i64) r.2]
  | _, _ => none
 | _ => none⟩
def pf12_Union.ks : List K := [.st (.pr (.str) (.pr (.sl (.st (.pr (.str) (.pr (.int .i64) (.int .i64))))) (.sl (.st (.pr (.str) (.pr (.sl (.st (.pr (.int .i64) (.int .i64)))) (.pr (.sl (.st (.pr (.int .i64) (.int .i64)))) (.pr (.sl (.st (.pr (.int .i64) (.int .i64)))) (.int .i64))))))))), .st (.pr (.str) (.pr (.sl (.st (.pr (.str) (.pr (.int .i64) (.int .i64))))) (.sl (.st (.pr (.str) (.pr (.sl (.st (.pr (.int .i64) (.int .i64)))) (.pr (.sl (.st (.pr (.int .i64) (.int .i64)))) (.pr (.sl (.st (.pr (.int .i64) (.int .i64)))) (.int .i64)))))))))]
def pf12_Union.fent : Fent := ⟨pf12_Union.ks, fun α ds k => match ds with
 | [d0, d1] => match d0.get (.st (.pr (.str) (.pr (.sl (.st (.pr (.str) (.pr (.int .i64) (.int .i64))))) (.sl (.st (.pr (.str) (.pr (.sl (.st (.pr (.int .i64) (.int .i64)))) (.pr (.sl (.st (.pr (.int .i64) (.int .i64)))) (.pr (.sl (.st (.pr (.int .i64) (.int .i64)))) (.int .i64)))))))))), d1.get (.st (.pr (.str) (.pr (.sl (.st (.pr (.str) (.pr (.int .i64) (.int .i64))))) (.sl (.st (.pr (.str) (.pr (.sl (.st (.pr (.int .i64) (.int .i64)))) (.pr (.sl (.st (.pr (.int .i64) (.int .i64)))) (.pr (.sl (.st (.pr (.int .i64) (.int .i64)))) (.int .i64)))))))))) with
  | some a0, some a1 => lt (pf12_Union.spec a0 a1) fun r => k [.dat (.st (.pr (.str) (.pr (.sl (.st (.pr (.str) (.pr (.int .i64) (.int .i64))))) (.sl (.st (.pr (.str) (.pr (.sl (.st (.pr (.int .i64) (.int .i64)))) (.pr (.sl (.st (.pr (.int .i64) (.int .i64)))) (.pr (.sl (.st (.pr (.int .i64) (.int .i64)))) (.int .i64)))))))))) r.1, .dat (.int .i64) r.2]
  | _, _ => none
 | _ => none⟩
def tf_Dual.ks : List K := [.st (.pr (.str) (.pr (.sl (.st (.pr (.str) (.pr (.int .i64) (.int .i64))))) (.sl (.st (.pr (.str) (.pr (.sl (.st (.pr (.int .i64) (.int .i64)))) (.pr (.sl (.st (.pr (.int .i64) (.int .i64)))) (.pr (.sl (.st (.pr (.int .i64) (.int .i64)))) (.int .i64)))))))))]
def tf_Dual.fent : Fent := ⟨tf_Dual.ks, fun α ds k => match ds with
 | [d0] => match d0.get (.st (.pr (.str) (.pr (.sl (.st (.pr (.str) (.pr (.int .i64) (.int .i64))))) (.sl (.st (.pr (.str) (.pr (.sl (.st (.pr (.int .i64) (.int .i64)))) (.pr (.sl (.st (.pr (.int .i64) (.int .i64)))) (.pr (.sl (.st (.pr (.int .i64) (.int .i64)))) (.int .i64)))))))))) with
  | some a0 => lt (tf_Dual.spec a0) fun r => k [.dat (.st (.pr (.str) (.pr (.sl (.st (.pr (.str) (.pr (.int .i64) (.int .i64))))) (.sl (.st (.pr (.str) (.pr (.sl (.st (.pr (.int .i64) (.int .i64)))) (.pr (.sl (.st (.pr (.int .i64) (.int .i64)))) (.pr (.sl (.st (.pr (.int .i64) (.int .i64)))) (.int .i64)))))))))) r.1, .dat (.int .i64) r.2]
  | _ => none
 | _ => none⟩
def pf12_Dual.ks : List K := [.st (.pr (.str) (.pr (.sl (.st (.pr (.str) (.pr (.int .i64) (.int .i64))))) (.sl (.st (.pr (.str) (.pr (.sl (.st (.pr (.int .i64) (.int .i64)))) (.pr (.sl (.st (.pr (.int .i64) (.int .i64)))) (.pr (.sl (.st (.pr (.int .i64) (.int .i64)))) (.int .i64)))))))))]
def pf12_Dual.fent : Fent := ⟨pf12_Dual.ks, fun α ds k => match ds with
 | [d0] => match d0.get (.st (.pr (.str) (.pr (.sl (.st (.pr (.str) (.pr (.int .i64) (.int .i64))))) (.sl (.st (.pr (.str) (.pr (.sl (.st (.pr (.int .i64) (.int .i64)))) (.pr (.sl (.st (.pr (.int .i64) (.int .i64)))) (.pr (.sl (.st (.pr (.int .i64) (.int .i64)))) (.int .i64)))))))))) with
  | some a0 => lt (pf12_Dual.spec a0) fun r => k [.dat (.st (.pr (.str) (.pr (.sl (.st (.pr (.str) (.pr (.int .i64) (.int .i64))))) (.sl (.st (.pr (.str) (.pr (.sl (.st (.pr (.int .i64) (.int .i64)))) (.pr (.sl (.st (.pr (.int .i64) (.int .i64)))) (.pr (.sl (.st (.pr (.int .i64) (.int .i64)))) (.int .i64)))))))))) r.1, .dat (.int .i64) r.2]
  | _ => none
 | _ => none⟩
def tf_checkPlain.ks : List K := [.st (.pr (.str) (.pr (.sl (.st (.pr (.str) (.pr (.int .i64) (.int .i64))))) (.sl (.st (.pr (.str) (.pr (.sl (.st (.pr (.int .i64) (.int .i64)))) (.pr (.sl (.st (.pr (.int .i64) (.int .i64)))) (.pr (.sl (.st (.pr (.int .i64) (.int .i64)))) (.int .i64)))))))))]
def tf_checkPlain.fent : Fent := ⟨tf_checkPlain.ks, fun α ds k => match ds with
 | [d0] => match d0.get (.st (.pr (.str) (.pr (.sl (.st (.pr (.str) (.pr (.int .i64) (.int .i64))))) (.sl (.st (.pr (.str) (.pr (.sl (.st (.pr (.int .i64) (.int .i64)))) (.pr (.sl (.st (.pr (.int .i64) (.int .i64)))) (.pr (.sl (.st (.pr (.int .i64) (.int .i64)))) (.int .i64)))))))))) with
  | some a0 => lt (tf_checkPlain.spec a0) fun r => k [.dat (.int .i64) r]
  | _ => none
 | _ => none⟩
def pf12_plain.ks : List K := [.st (.pr (.str) (.pr (.sl (.st (.pr (.str) (.pr (.int .i64) (.int .i64))))) (.sl (.st (.pr (.str) (.pr (.sl (.st (.pr (.int .i64) (.int .i64)))) (.pr (.sl (.st (.pr (.int .i64) (.int .i64)))) (.pr (.sl (.st (.pr (.int .i64) (.int .i64)))) (.int .i64)))))))))]
def pf12_plain.fent : Fent := ⟨pf12_plain.ks, fun α ds k => match ds with
 | [d0] => match d0.get (.st (.pr (.str) (.pr (.sl (.st (.pr (.str) (.pr (.int .i64) (.int .i64))))) (.sl (.st (.pr (.str) (.pr (.sl (.st (.pr (.int .i64) (.int .i64)))) (.pr (.sl (.st (.pr (.int .i64) (.int .i64)))) (.pr (.sl (.st (.pr (.int .i64) (.int .i64)))) (.int .i64)))))))))) with
  | some a0 => lt (pf12_plain.spec a0) fun r => k [.dat (.int .i64) r]
  | _ => none
 | _ => none⟩
def pf09_SameArcs.ks : List K := [.sl (.st (.pr (.int .i64) (.int .i64))), .sl (.st (.pr (.int .i64) (.int .i64)))]
def pf09_SameArcs.fent : Fent := ⟨pf09_SameArcs.ks, fun α ds k => match ds with
 | [d0, d1] => match d0.get (.sl (.st (.pr (.int .i64) (.int .i64)))), d1.get (.sl (.st (.pr (.int .i64) (.int .i64)))) with
  | some a0, some a1 => lt (pf09_SameArcs.spec a0 a1) fun r => k [.dat (.bool) r]
  | _, _ => none
 | _ => none⟩
def pf09_Equal.ks : List K := [.st (.pr (.str) (.pr (.sl (.st (.pr (.str) (.pr (.int .i64) (.int .i64))))) (.sl (.st (.pr (.str) (.pr (.sl (.st (.pr (.int .i64) (.int .i64)))) (.pr (.sl (.st (.pr (.int .i64) (.int .i64)))) (.pr (.sl (.st (.pr (.int .i64) (.int .i64)))) (.int .i64))))))))), .st (.pr (.str) (.pr (.sl (.st (.pr (.str) (.pr (.int .i64) (.int .i64))))) (.sl (.st (.pr (.str) (.pr (.sl (.st (.pr (.int .i64) (.int .i64)))) (.pr (.sl (.st (.pr (.int .i64) (.int .i64)))) (.pr (.sl (.st (.pr (.int .i64) (.int .i64)))) (.int .i64)))))))))]
def pf09_Equal.fent : Fent := ⟨pf09_Equal.ks, fun α ds k => match ds with
 | [d0, d1] => match d0.get (.st (.pr (.str) (.pr (.sl (.st (.pr (.str) (.pr (.int .i64) (.int .i64))))) (.sl (.st (.pr (.str) (.pr (.sl (.st (.pr (.int .i64) (.int .i64)))) (.pr (.sl (.st (.pr (.int .i64) (.int .i64)))) (.pr (.sl (.st (.pr (.int .i64) (.int .i64)))) (.int .i64)))))))))), d1.get (.st (.pr (.str) (.pr (.sl (.st (.pr (.str) (.pr (.int .i64) (.int .i64))))) (.sl (.st (.pr (.str) (.pr (.sl (.st (.pr (.int .i64) (.int .i64)))) (.pr (.sl (.st (.pr (.int .i64) (.int .i64)))) (.pr (.sl (.st (.pr (.int .i64) (.int .i64)))) (.int .i64)))))))))) with
  | some a0, some a1 => lt (pf09_Equal.spec a0 a1) fun r => k [.dat (.bool) r]
  | _, _ => none
 | _ => none⟩
def pf09_Small.ks : List K := [.st (.pr (.str) (.pr (.sl (.st (.pr (.str) (.pr (.int .i64) (.int .i64))))) (.sl (.st (.pr (.str) (.pr (.sl (.st (.pr (.int .i64) (.int .i64)))) (.pr (.sl (.st (.pr (.int .i64) (.int .i64)))) (.pr (.sl (.st (.pr (.int .i64) (.int .i64)))) (.int .i64)))))))))]
def pf09_Small.fent : Fent := ⟨pf09_Small.ks, fun α ds k => match ds with
 | [d0] => match d0.get (.st (.pr (.str) (.pr (.sl (.st (.pr (.str) (.pr (.int .i64) (.int .i64))))) (.sl (.st (.pr (.str) (.pr (.sl (.st (.pr (.int .i64) (.int .i64)))) (.pr (.sl (.st (.pr (.int .i64) (.int .i64)))) (.pr (.sl (.st (.pr (.int .i64) (.int .i64)))) (.int .i64)))))))))) with
  | some a0 => lt (pf09_Small.spec a0) fun r => k [.dat (.st (.pr (.str) (.pr (.sl (.st (.pr (.str) (.pr (.int .i64) (.int .i64))))) (.sl (.st (.pr (.str) (.pr (.sl (.st (.pr (.int .i64) (.int .i64)))) (.pr (.sl (.st (.pr (.int .i64) (.int .i64)))) (.pr (.sl (.st (.pr (.int .i64) (.int .i64)))) (.int .i64)))))))))) r.1, .dat (.bool) r.2]
  | _ => none
 | _ => none⟩
def pf04_Copy.ks : List K := [.sl (.int .i64)]
def pf04_Copy.fent : Fent := ⟨pf04_Copy.ks, fun α ds k => match ds with
 | [d0] => match d0.get (.sl (.int .i64)) with
  | some a0 => cond (pf04_Copy.pre a0) (lt (pf04_Copy.spec a0) fun r => k [.own (.int .i64) r]) none
  | _ => none
 | _ => none⟩
def pl12_lives.ks : List K := []
def pl12_lives.fent : Fent := ⟨pl12_lives.ks, fun α ds k => lt (pl12_lives.spec ) fun r => k [.dat (.bool) r]⟩
def pl12_TransformParts.ks : List K := [.st (.pr (.str) (.pr (.sl (.st (.pr (.str) (.pr (.int .i64) (.int .i64))))) (.sl (.st (.pr (.str) (.pr (.sl (.st (.pr (.int .i64) (.int .i64)))) (.pr (.sl (.st (.pr (.int .i64) (.int .i64)))) (.pr (.sl (.st (.pr (.int .i64) (.int .i64)))) (.int .i64))))))))), .st (.pr (.int .u64) (.int .u64)), .sl (.int .i64)]
def pl12_TransformParts.fent : Fent := ⟨pl12_TransformParts.ks, fun α ds k => match ds with
 | [d0, d1, d2] => match d0.get (.st (.pr (.str) (.pr (.sl (.st (.pr (.str) (.pr (.int .i64) (.int .i64))))) (.sl (.st (.pr (.str) (.pr (.sl (.st (.pr (.int .i64) (.int .i64)))) (.pr (.sl (.st (.pr (.int .i64) (.int .i64)))) (.pr (.sl (.st (.pr (.int .i64) (.int .i64)))) (.int .i64)))))))))), d1.get (.st (.pr (.int .u64) (.int .u64))), d2.get (.sl (.int .i64)) with
  | some a0, some a1, some a2 => lt (pl12_TransformParts.spec a0 a1 a2) fun r => k [.dat (.bool) r]
  | _, _, _ => none
 | _ => none⟩
def pl12_TransformMirrors.ks : List K := [.st (.pr (.str) (.pr (.sl (.st (.pr (.str) (.pr (.int .i64) (.int .i64))))) (.sl (.st (.pr (.str) (.pr (.sl (.st (.pr (.int .i64) (.int .i64)))) (.pr (.sl (.st (.pr (.int .i64) (.int .i64)))) (.pr (.sl (.st (.pr (.int .i64) (.int .i64)))) (.int .i64)))))))))]
def pl12_TransformMirrors.fent : Fent := ⟨pl12_TransformMirrors.ks, fun α ds k => match ds with
 | [d0] => match d0.get (.st (.pr (.str) (.pr (.sl (.st (.pr (.str) (.pr (.int .i64) (.int .i64))))) (.sl (.st (.pr (.str) (.pr (.sl (.st (.pr (.int .i64) (.int .i64)))) (.pr (.sl (.st (.pr (.int .i64) (.int .i64)))) (.pr (.sl (.st (.pr (.int .i64) (.int .i64)))) (.int .i64)))))))))) with
  | some a0 => lt (pl12_TransformMirrors.spec a0) fun r => k [.dat (.bool) r]
  | _ => none
 | _ => none⟩
def pl12_TransformUnions.ks : List K := [.st (.pr (.str) (.pr (.sl (.st (.pr (.str) (.pr (.int .i64) (.int .i64))))) (.sl (.st (.pr (.str) (.pr (.sl (.st (.pr (.int .i64) (.int .i64)))) (.pr (.sl (.st (.pr (.int .i64) (.int .i64)))) (.pr (.sl (.st (.pr (.int .i64) (.int .i64)))) (.int .i64))))))))), .st (.pr (.str) (.pr (.sl (.st (.pr (.str) (.pr (.int .i64) (.int .i64))))) (.sl (.st (.pr (.str) (.pr (.sl (.st (.pr (.int .i64) (.int .i64)))) (.pr (.sl (.st (.pr (.int .i64) (.int .i64)))) (.pr (.sl (.st (.pr (.int .i64) (.int .i64)))) (.int .i64)))))))))]
def pl12_TransformUnions.fent : Fent := ⟨pl12_TransformUnions.ks, fun α ds k => match ds with
 | [d0, d1] => match d0.get (.st (.pr (.str) (.pr (.sl (.st (.pr (.str) (.pr (.int .i64) (.int .i64))))) (.sl (.st (.pr (.str) (.pr (.sl (.st (.pr (.int .i64) (.int .i64)))) (.pr (.sl (.st (.pr (.int .i64) (.int .i64)))) (.pr (.sl (.st (.pr (.int .i64) (.int .i64)))) (.int .i64)))))))))), d1.get (.st (.pr (.str) (.pr (.sl (.st (.pr (.str) (.pr (.int .i64) (.int .i64))))) (.sl (.st (.pr (.str) (.pr (.sl (.st (.pr (.int .i64) (.int .i64)))) (.pr (.sl (.st (.pr (.int .i64) (.int .i64)))) (.pr (.sl (.st (.pr (.int .i64) (.int .i64)))) (.int .i64)))))))))) with
  | some a0, some a1 => lt (pl12_TransformUnions.spec a0 a1) fun r => k [.dat (.bool) r]
  | _, _ => none
 | _ => none⟩
def pl12_TransformReturns.ks : List K := [.st (.pr (.str) (.pr (.sl (.st (.pr (.str) (.pr (.int .i64) (.int .i64))))) (.sl (.st (.pr (.str) (.pr (.sl (.st (.pr (.int .i64) (.int .i64)))) (.pr (.sl (.st (.pr (.int .i64) (.int .i64)))) (.pr (.sl (.st (.pr (.int .i64) (.int .i64)))) (.int .i64)))))))))]
def pl12_TransformReturns.fent : Fent := ⟨pl12_TransformReturns.ks, fun α ds k => match ds with
 | [d0] => match d0.get (.st (.pr (.str) (.pr (.sl (.st (.pr (.str) (.pr (.int .i64) (.int .i64))))) (.sl (.st (.pr (.str) (.pr (.sl (.st (.pr (.int .i64) (.int .i64)))) (.pr (.sl (.st (.pr (.int .i64) (.int .i64)))) (.pr (.sl (.st (.pr (.int .i64) (.int .i64)))) (.int .i64)))))))))) with
  | some a0 => lt (pl12_TransformReturns.spec a0) fun r => k [.dat (.bool) r]
  | _ => none
 | _ => none⟩
def pl12_TransformJoins.ks : List K := [.st (.pr (.str) (.pr (.sl (.st (.pr (.str) (.pr (.int .i64) (.int .i64))))) (.sl (.st (.pr (.str) (.pr (.sl (.st (.pr (.int .i64) (.int .i64)))) (.pr (.sl (.st (.pr (.int .i64) (.int .i64)))) (.pr (.sl (.st (.pr (.int .i64) (.int .i64)))) (.int .i64))))))))), .st (.pr (.str) (.pr (.sl (.st (.pr (.str) (.pr (.int .i64) (.int .i64))))) (.sl (.st (.pr (.str) (.pr (.sl (.st (.pr (.int .i64) (.int .i64)))) (.pr (.sl (.st (.pr (.int .i64) (.int .i64)))) (.pr (.sl (.st (.pr (.int .i64) (.int .i64)))) (.int .i64)))))))))]
def pl12_TransformJoins.fent : Fent := ⟨pl12_TransformJoins.ks, fun α ds k => match ds with
 | [d0, d1] => match d0.get (.st (.pr (.str) (.pr (.sl (.st (.pr (.str) (.pr (.int .i64) (.int .i64))))) (.sl (.st (.pr (.str) (.pr (.sl (.st (.pr (.int .i64) (.int .i64)))) (.pr (.sl (.st (.pr (.int .i64) (.int .i64)))) (.pr (.sl (.st (.pr (.int .i64) (.int .i64)))) (.int .i64)))))))))), d1.get (.st (.pr (.str) (.pr (.sl (.st (.pr (.str) (.pr (.int .i64) (.int .i64))))) (.sl (.st (.pr (.str) (.pr (.sl (.st (.pr (.int .i64) (.int .i64)))) (.pr (.sl (.st (.pr (.int .i64) (.int .i64)))) (.pr (.sl (.st (.pr (.int .i64) (.int .i64)))) (.int .i64)))))))))) with
  | some a0, some a1 => lt (pl12_TransformJoins.spec a0 a1) fun r => k [.dat (.bool) r]
  | _, _ => none
 | _ => none⟩
def pl12_TransformStarts.ks : List K := [.st (.pr (.str) (.pr (.sl (.st (.pr (.str) (.pr (.int .i64) (.int .i64))))) (.sl (.st (.pr (.str) (.pr (.sl (.st (.pr (.int .i64) (.int .i64)))) (.pr (.sl (.st (.pr (.int .i64) (.int .i64)))) (.pr (.sl (.st (.pr (.int .i64) (.int .i64)))) (.int .i64))))))))), .sl (.int .i64)]
def pl12_TransformStarts.fent : Fent := ⟨pl12_TransformStarts.ks, fun α ds k => match ds with
 | [d0, d1] => match d0.get (.st (.pr (.str) (.pr (.sl (.st (.pr (.str) (.pr (.int .i64) (.int .i64))))) (.sl (.st (.pr (.str) (.pr (.sl (.st (.pr (.int .i64) (.int .i64)))) (.pr (.sl (.st (.pr (.int .i64) (.int .i64)))) (.pr (.sl (.st (.pr (.int .i64) (.int .i64)))) (.int .i64)))))))))), d1.get (.sl (.int .i64)) with
  | some a0, some a1 => lt (pl12_TransformStarts.spec a0 a1) fun r => k [.dat (.bool) r]
  | _, _ => none
 | _ => none⟩
def pl12_all.ks : List K := [.int .i64]
def pl12_all.fent : Fent := ⟨pl12_all.ks, fun α ds k => match ds with
 | [d0] => match d0.get (.int .i64) with
  | some a0 => lt (pl12_all.spec a0) fun r => k [.dat (.int .u64) r]
  | _ => none
 | _ => none⟩
def strconv_Itoa.ks : List K := [.int .i64]
def strconv_Itoa.fent : Fent := ⟨strconv_Itoa.ks, fun α ds k => match ds with
 | [d0] => match d0.get (.int .i64) with
  | some a0 => cond (strconv_Itoa.pre a0) (lt (strconv_Itoa.spec a0) fun r => k [.dat (.str) r]) none
  | _ => none
 | _ => none⟩
def pf12_digits.ks : List K := [.int .i64]
def pf12_digits.fent : Fent := ⟨pf12_digits.ks, fun α ds k => match ds with
 | [d0] => match d0.get (.int .i64) with
  | some a0 => cond (pf12_digits.pre a0) (lt (pf12_digits.spec a0) fun r => k [.dat (.str) r]) none
  | _ => none
 | _ => none⟩
def tf_Complement_1.ks : List K := [.int .i64, .st (.pr (.str) (.pr (.int .i64) (.int .i64)))]
def tf_Complement_1.fent : Fent := ⟨tf_Complement_1.ks, fun α ds k => match ds with
 | [d0, d1] => match d0.get (.int .i64), d1.get (.st (.pr (.str) (.pr (.int .i64) (.int .i64)))) with
  | some a0, some a1 => lt (tf_Complement_1.spec a0 a1) fun r => k [.dat (.st (.pr (.str) (.pr (.int .i64) (.int .i64)))) r]
  | _, _ => none
 | _ => none⟩
def pf12_bounded.ks : List K := [.st (.pr (.str) (.pr (.sl (.st (.pr (.str) (.pr (.int .i64) (.int .i64))))) (.sl (.st (.pr (.str) (.pr (.sl (.st (.pr (.int .i64) (.int .i64)))) (.pr (.sl (.st (.pr (.int .i64) (.int .i64)))) (.pr (.sl (.st (.pr (.int .i64) (.int .i64)))) (.int .i64)))))))))]
def pf12_bounded.fent : Fent := ⟨pf12_bounded.ks, fun α ds k => match ds with
 | [d0] => match d0.get (.st (.pr (.str) (.pr (.sl (.st (.pr (.str) (.pr (.int .i64) (.int .i64))))) (.sl (.st (.pr (.str) (.pr (.sl (.st (.pr (.int .i64) (.int .i64)))) (.pr (.sl (.st (.pr (.int .i64) (.int .i64)))) (.pr (.sl (.st (.pr (.int .i64) (.int .i64)))) (.int .i64)))))))))) with
  | some a0 => cond (pf12_bounded.pre a0) (lt (pf12_bounded.spec a0) fun r => k [.own (.int .i64) r]) none
  | _ => none
 | _ => none⟩
def tf_checkComplement.ks : List K := [.st (.pr (.str) (.pr (.sl (.st (.pr (.str) (.pr (.int .i64) (.int .i64))))) (.sl (.st (.pr (.str) (.pr (.sl (.st (.pr (.int .i64) (.int .i64)))) (.pr (.sl (.st (.pr (.int .i64) (.int .i64)))) (.pr (.sl (.st (.pr (.int .i64) (.int .i64)))) (.int .i64)))))))))]
def tf_checkComplement.fent : Fent := ⟨tf_checkComplement.ks, fun α ds k => match ds with
 | [d0] => match d0.get (.st (.pr (.str) (.pr (.sl (.st (.pr (.str) (.pr (.int .i64) (.int .i64))))) (.sl (.st (.pr (.str) (.pr (.sl (.st (.pr (.int .i64) (.int .i64)))) (.pr (.sl (.st (.pr (.int .i64) (.int .i64)))) (.pr (.sl (.st (.pr (.int .i64) (.int .i64)))) (.int .i64)))))))))) with
  | some a0 => lt (tf_checkComplement.spec a0) fun r => k [.dat (.int .i64) r]
  | _ => none
 | _ => none⟩
def pf12_may.ks : List K := [.st (.pr (.str) (.pr (.sl (.st (.pr (.str) (.pr (.int .i64) (.int .i64))))) (.sl (.st (.pr (.str) (.pr (.sl (.st (.pr (.int .i64) (.int .i64)))) (.pr (.sl (.st (.pr (.int .i64) (.int .i64)))) (.pr (.sl (.st (.pr (.int .i64) (.int .i64)))) (.int .i64)))))))))]
def pf12_may.fent : Fent := ⟨pf12_may.ks, fun α ds k => match ds with
 | [d0] => match d0.get (.st (.pr (.str) (.pr (.sl (.st (.pr (.str) (.pr (.int .i64) (.int .i64))))) (.sl (.st (.pr (.str) (.pr (.sl (.st (.pr (.int .i64) (.int .i64)))) (.pr (.sl (.st (.pr (.int .i64) (.int .i64)))) (.pr (.sl (.st (.pr (.int .i64) (.int .i64)))) (.int .i64)))))))))) with
  | some a0 => lt (pf12_may.spec a0) fun r => k [.dat (.int .i64) r]
  | _ => none
 | _ => none⟩
def tf_Complement.ks : List K := [.st (.pr (.str) (.pr (.sl (.st (.pr (.str) (.pr (.int .i64) (.int .i64))))) (.sl (.st (.pr (.str) (.pr (.sl (.st (.pr (.int .i64) (.int .i64)))) (.pr (.sl (.st (.pr (.int .i64) (.int .i64)))) (.pr (.sl (.st (.pr (.int .i64) (.int .i64)))) (.int .i64)))))))))]
def tf_Complement.fent : Fent := ⟨tf_Complement.ks, fun α ds k => match ds with
 | [d0] => match d0.get (.st (.pr (.str) (.pr (.sl (.st (.pr (.str) (.pr (.int .i64) (.int .i64))))) (.sl (.st (.pr (.str) (.pr (.sl (.st (.pr (.int .i64) (.int .i64)))) (.pr (.sl (.st (.pr (.int .i64) (.int .i64)))) (.pr (.sl (.st (.pr (.int .i64) (.int .i64)))) (.int .i64)))))))))) with
  | some a0 => lt (tf_Complement.spec a0) fun r => k [.dat (.st (.pr (.str) (.pr (.sl (.st (.pr (.str) (.pr (.int .i64) (.int .i64))))) (.sl (.st (.pr (.str) (.pr (.sl (.st (.pr (.int .i64) (.int .i64)))) (.pr (.sl (.st (.pr (.int .i64) (.int .i64)))) (.pr (.sl (.st (.pr (.int .i64) (.int .i64)))) (.int .i64)))))))))) r.1, .dat (.int .i64) r.2]
  | _ => none
 | _ => none⟩
def pf12_Complement.ks : List K := [.st (.pr (.str) (.pr (.sl (.st (.pr (.str) (.pr (.int .i64) (.int .i64))))) (.sl (.st (.pr (.str) (.pr (.sl (.st (.pr (.int .i64) (.int .i64)))) (.pr (.sl (.st (.pr (.int .i64) (.int .i64)))) (.pr (.sl (.st (.pr (.int .i64) (.int .i64)))) (.int .i64)))))))))]
def pf12_Complement.fent : Fent := ⟨pf12_Complement.ks, fun α ds k => match ds with
 | [d0] => match d0.get (.st (.pr (.str) (.pr (.sl (.st (.pr (.str) (.pr (.int .i64) (.int .i64))))) (.sl (.st (.pr (.str) (.pr (.sl (.st (.pr (.int .i64) (.int .i64)))) (.pr (.sl (.st (.pr (.int .i64) (.int .i64)))) (.pr (.sl (.st (.pr (.int .i64) (.int .i64)))) (.int .i64)))))))))) with
  | some a0 => lt (pf12_Complement.spec a0) fun r => k [.dat (.st (.pr (.str) (.pr (.sl (.st (.pr (.str) (.pr (.int .i64) (.int .i64))))) (.sl (.st (.pr (.str) (.pr (.sl (.st (.pr (.int .i64) (.int .i64)))) (.pr (.sl (.st (.pr (.int .i64) (.int .i64)))) (.pr (.sl (.st (.pr (.int .i64) (.int .i64)))) (.int .i64)))))))))) r.1, .dat (.int .i64) r.2]
  | _ => none
 | _ => none⟩
def tf_Lift.ks : List K := [.st (.pr (.str) (.pr (.sl (.st (.pr (.str) (.pr (.int .i64) (.int .i64))))) (.sl (.st (.pr (.str) (.pr (.sl (.st (.pr (.int .i64) (.int .i64)))) (.pr (.sl (.st (.pr (.int .i64) (.int .i64)))) (.pr (.sl (.st (.pr (.int .i64) (.int .i64)))) (.int .i64))))))))), .sl (.int .i64)]
def tf_Lift.fent : Fent := ⟨tf_Lift.ks, fun α ds k => match ds with
 | [d0, d1] => match d0.get (.st (.pr (.str) (.pr (.sl (.st (.pr (.str) (.pr (.int .i64) (.int .i64))))) (.sl (.st (.pr (.str) (.pr (.sl (.st (.pr (.int .i64) (.int .i64)))) (.pr (.sl (.st (.pr (.int .i64) (.int .i64)))) (.pr (.sl (.st (.pr (.int .i64) (.int .i64)))) (.int .i64)))))))))), d1.get (.sl (.int .i64)) with
  | some a0, some a1 => lt (tf_Lift.spec a0 a1) fun r => k [.own (.int .i64) r.1, .dat (.int .i64) r.2]
  | _, _ => none
 | _ => none⟩
def pf12_Lift.ks : List K := [.st (.pr (.str) (.pr (.sl (.st (.pr (.str) (.pr (.int .i64) (.int .i64))))) (.sl (.st (.pr (.str) (.pr (.sl (.st (.pr (.int .i64) (.int .i64)))) (.pr (.sl (.st (.pr (.int .i64) (.int .i64)))) (.pr (.sl (.st (.pr (.int .i64) (.int .i64)))) (.int .i64))))))))), .sl (.int .i64)]
def pf12_Lift.fent : Fent := ⟨pf12_Lift.ks, fun α ds k => match ds with
 | [d0, d1] => match d0.get (.st (.pr (.str) (.pr (.sl (.st (.pr (.str) (.pr (.int .i64) (.int .i64))))) (.sl (.st (.pr (.str) (.pr (.sl (.st (.pr (.int .i64) (.int .i64)))) (.pr (.sl (.st (.pr (.int .i64) (.int .i64)))) (.pr (.sl (.st (.pr (.int .i64) (.int .i64)))) (.int .i64)))))))))), d1.get (.sl (.int .i64)) with
  | some a0, some a1 => lt (pf12_Lift.spec a0 a1) fun r => k [.own (.int .i64) r.1, .dat (.int .i64) r.2]
  | _, _ => none
 | _ => none⟩
def pl12_TransformComplements.ks : List K := [.st (.pr (.str) (.pr (.sl (.st (.pr (.str) (.pr (.int .i64) (.int .i64))))) (.sl (.st (.pr (.str) (.pr (.sl (.st (.pr (.int .i64) (.int .i64)))) (.pr (.sl (.st (.pr (.int .i64) (.int .i64)))) (.pr (.sl (.st (.pr (.int .i64) (.int .i64)))) (.int .i64))))))))), .sl (.int .i64)]
def pl12_TransformComplements.fent : Fent := ⟨pl12_TransformComplements.ks, fun α ds k => match ds with
 | [d0, d1] => match d0.get (.st (.pr (.str) (.pr (.sl (.st (.pr (.str) (.pr (.int .i64) (.int .i64))))) (.sl (.st (.pr (.str) (.pr (.sl (.st (.pr (.int .i64) (.int .i64)))) (.pr (.sl (.st (.pr (.int .i64) (.int .i64)))) (.pr (.sl (.st (.pr (.int .i64) (.int .i64)))) (.int .i64)))))))))), d1.get (.sl (.int .i64)) with
  | some a0, some a1 => lt (pl12_TransformComplements.spec a0 a1) fun r => k [.dat (.bool) r]
  | _, _ => none
 | _ => none⟩
end Go.VI
namespace Go.VI
open Go Go.Proofs
namespace pf09_Small
def an11 : Ann := [(4, [1, 2, 4], [1, 2, 3]), (9, [1, 2, 5], [1, 2, 3])]
def L0.sh : Sh := { sl := [(1, SV.a (SA.fx (Atom.box 0 0))), (2, SV.a (SA.fx (Atom.box 1 0))), (4, SV.a (SA.d (K.int IntKind.i64)))], os := [(0, SO.box [SA.d K.str, SA.d (K.str.pr ((K.int IntKind.i64).pr (K.int IntKind.i64))).st.sl, SA.d (K.str.pr (((K.int IntKind.i64).pr (K.int IntKind.i64)).st.sl.pr (((K.int IntKind.i64).pr (K.int IntKind.i64)).st.sl.pr (((K.int IntKind.i64).pr (K.int IntKind.i64)).st.sl.pr (K.int IntKind.i64))))).st.sl]), (1, SO.box [SA.d K.str, SA.fx (Atom.sl 2 0 none), SA.fx (Atom.sl 3 0 none)]), (2, SO.row (K.str.pr ((K.int IntKind.i64).pr (K.int IntKind.i64))).st 0), (3, SO.row (K.str.pr (((K.int IntKind.i64).pr (K.int IntKind.i64)).st.sl.pr (((K.int IntKind.i64).pr (K.int IntKind.i64)).st.sl.pr (((K.int IntKind.i64).pr (K.int IntKind.i64)).st.sl.pr (K.int IntKind.i64))))).st 0)], nx := 4 }
def L0.x0 : Sh := { sl := [(1, SV.a (SA.fx (Atom.box 0 0))), (2, SV.a (SA.fx (Atom.box 1 0))), (3, SV.a (SA.d K.bool))], os := [(0, SO.box [SA.d K.str, SA.d (K.str.pr ((K.int IntKind.i64).pr (K.int IntKind.i64))).st.sl, SA.d (K.str.pr (((K.int IntKind.i64).pr (K.int IntKind.i64)).st.sl.pr (((K.int IntKind.i64).pr (K.int IntKind.i64)).st.sl.pr (((K.int IntKind.i64).pr (K.int IntKind.i64)).st.sl.pr (K.int IntKind.i64))))).st.sl]), (1, SO.box [SA.d K.str, SA.fx (Atom.sl 2 0 none), SA.fx (Atom.sl 3 0 none)]), (2, SO.row (K.str.pr ((K.int IntKind.i64).pr (K.int IntKind.i64))).st 0), (3, SO.row (K.str.pr (((K.int IntKind.i64).pr (K.int IntKind.i64)).st.sl.pr (((K.int IntKind.i64).pr (K.int IntKind.i64)).st.sl.pr (((K.int IntKind.i64).pr (K.int IntKind.i64)).st.sl.pr (K.int IntKind.i64))))).st 0)], nx := 4 }
def L0.x1 : Sh := { sl := [(1, SV.a (SA.fx (Atom.box 0 0))), (2, SV.a (SA.fx (Atom.box 1 0))), (3, SV.j)], os := [(0, SO.box [SA.d K.str, SA.d (K.str.pr ((K.int IntKind.i64).pr (K.int IntKind.i64))).st.sl, SA.d (K.str.pr (((K.int IntKind.i64).pr (K.int IntKind.i64)).st.sl.pr (((K.int IntKind.i64).pr (K.int IntKind.i64)).st.sl.pr (((K.int IntKind.i64).pr (K.int IntKind.i64)).st.sl.pr (K.int IntKind.i64))))).st.sl]), (1, SO.box [SA.d K.str, SA.fx (Atom.sl 2 0 none), SA.fx (Atom.sl 3 0 none)]), (2, SO.row (K.str.pr ((K.int IntKind.i64).pr (K.int IntKind.i64))).st 0), (3, SO.row (K.str.pr (((K.int IntKind.i64).pr (K.int IntKind.i64)).st.sl.pr (((K.int IntKind.i64).pr (K.int IntKind.i64)).st.sl.pr (((K.int IntKind.i64).pr (K.int IntKind.i64)).st.sl.pr (K.int IntKind.i64))))).st 0)], nx := 4 }
def L0.st {α : Type} (N : Nat) (x2 : (List (BA × Int × Int))) (φ : (Int → Option α)) (x0 : Int) (k0 : (Bool → BA → (List (BA × Int × Int)) → (List (BA × List (Int × Int) × List (Int × Int) × List (Int × Int) × Int)) → Option α)) (k1 : Option α) : Option α :=
 cond (decide (x0 < (↑x2.length : Int))) (cond (decide (0 ≤ x0) && decide (x0 < (↑x2.length : Int))) (cond (decide (20 < (↑(x2.getD x0.toNat (eBA, 0, 0)).fst.data.toList.length : Int))) (k0 (false) ((ByteArray.mk (#[]))) ([]) ([])) (φ (IntKind.i64.wrap (x0 + 1)))) (none)) (k1 )
def L0.f {α : Type} (N : Nat) (c1 : (List (BA × Int × Int))) : Nat → Int → (Bool → BA → (List (BA × Int × Int)) → (List (BA × List (Int × Int) × List (Int × Int) × List (Int × Int) × Int)) → Option α) → Option α → Option α
 | 0, _, _, _ => none
 | n + 1, d0, k0, k1 => L0.st N c1 (fun e0 => L0.f N c1 n e0 k0 k1) d0 k0 k1
def L0.up (d : L0.sh.T) (e0 : Int) : L0.sh.T := (((), ((), (e0, ()))), ((d.2.1.1, (d.2.1.2.1, (d.2.1.2.2.1, ()))), ((d.2.2.1.1, ((), ((), ()))), (d.2.2.2.1, (d.2.2.2.2.1, ())))))
def L0.k0 {α : Type} (d : L0.sh.T) (K : Cont α) : (Bool → BA → (List (BA × Int × Int)) → (List (BA × List (Int × Int) × List (Int × Int) × List (Int × Int) × Int)) → Option α) := fun y0 y1 y2 y3 => K (Exit.ret) (L0.x0.enc (((), ((), (y0, ()))), ((d.2.1.1, (d.2.1.2.1, (d.2.1.2.2.1, ()))), ((y1, ((), ((), ()))), (y2, (y3, ()))))))
def L0.k1 {α : Type} (d : L0.sh.T) (K : Cont α) : Option α := K (Exit.exit 0) (L0.x1.enc (((), ((), ((), ()))), ((d.2.1.1, (d.2.1.2.1, (d.2.1.2.2.1, ()))), ((d.2.2.1.1, ((), ((), ()))), (d.2.2.2.1, (d.2.2.2.2.1, ()))))))
def L0.F {α : Type} (N : Nat) (d : L0.sh.T) (K : Cont α) : Option α := L0.f N d.2.1.2.1 N d.1.2.2.1 (L0.k0 d K) (L0.k1 d K)
def L1.sh : Sh := { sl := [(1, SV.a (SA.fx (Atom.box 0 0))), (2, SV.a (SA.fx (Atom.box 1 0))), (5, SV.a (SA.d (K.int IntKind.i64)))], os := [(0, SO.box [SA.d K.str, SA.d (K.str.pr ((K.int IntKind.i64).pr (K.int IntKind.i64))).st.sl, SA.d (K.str.pr (((K.int IntKind.i64).pr (K.int IntKind.i64)).st.sl.pr (((K.int IntKind.i64).pr (K.int IntKind.i64)).st.sl.pr (((K.int IntKind.i64).pr (K.int IntKind.i64)).st.sl.pr (K.int IntKind.i64))))).st.sl]), (1, SO.box [SA.d K.str, SA.fx (Atom.sl 2 0 none), SA.fx (Atom.sl 3 0 none)]), (2, SO.row (K.str.pr ((K.int IntKind.i64).pr (K.int IntKind.i64))).st 0), (3, SO.row (K.str.pr (((K.int IntKind.i64).pr (K.int IntKind.i64)).st.sl.pr (((K.int IntKind.i64).pr (K.int IntKind.i64)).st.sl.pr (((K.int IntKind.i64).pr (K.int IntKind.i64)).st.sl.pr (K.int IntKind.i64))))).st 0)], nx := 4 }
def L1.x0 : Sh := { sl := [(1, SV.a (SA.fx (Atom.box 0 0))), (2, SV.a (SA.fx (Atom.box 1 0))), (3, SV.a (SA.d K.bool))], os := [(0, SO.box [SA.d K.str, SA.d (K.str.pr ((K.int IntKind.i64).pr (K.int IntKind.i64))).st.sl, SA.d (K.str.pr (((K.int IntKind.i64).pr (K.int IntKind.i64)).st.sl.pr (((K.int IntKind.i64).pr (K.int IntKind.i64)).st.sl.pr (((K.int IntKind.i64).pr (K.int IntKind.i64)).st.sl.pr (K.int IntKind.i64))))).st.sl]), (1, SO.box [SA.d K.str, SA.fx (Atom.sl 2 0 none), SA.fx (Atom.sl 3 0 none)]), (2, SO.row (K.str.pr ((K.int IntKind.i64).pr (K.int IntKind.i64))).st 0), (3, SO.row (K.str.pr (((K.int IntKind.i64).pr (K.int IntKind.i64)).st.sl.pr (((K.int IntKind.i64).pr (K.int IntKind.i64)).st.sl.pr (((K.int IntKind.i64).pr (K.int IntKind.i64)).st.sl.pr (K.int IntKind.i64))))).st 0)], nx := 4 }
def L1.x1 : Sh := { sl := [(1, SV.a (SA.fx (Atom.box 0 0))), (2, SV.a (SA.fx (Atom.box 1 0))), (3, SV.j)], os := [(0, SO.box [SA.d K.str, SA.d (K.str.pr ((K.int IntKind.i64).pr (K.int IntKind.i64))).st.sl, SA.d (K.str.pr (((K.int IntKind.i64).pr (K.int IntKind.i64)).st.sl.pr (((K.int IntKind.i64).pr (K.int IntKind.i64)).st.sl.pr (((K.int IntKind.i64).pr (K.int IntKind.i64)).st.sl.pr (K.int IntKind.i64))))).st.sl]), (1, SO.box [SA.d K.str, SA.fx (Atom.sl 2 0 none), SA.fx (Atom.sl 3 0 none)]), (2, SO.row (K.str.pr ((K.int IntKind.i64).pr (K.int IntKind.i64))).st 0), (3, SO.row (K.str.pr (((K.int IntKind.i64).pr (K.int IntKind.i64)).st.sl.pr (((K.int IntKind.i64).pr (K.int IntKind.i64)).st.sl.pr (((K.int IntKind.i64).pr (K.int IntKind.i64)).st.sl.pr (K.int IntKind.i64))))).st 0)], nx := 4 }
def L1.st {α : Type} (N : Nat) (x14 : (List (BA × List (Int × Int) × List (Int × Int) × List (Int × Int) × Int))) (φ : (Int → Option α)) (x11 : Int) (k0 : (Bool → BA → (List (BA × Int × Int)) → (List (BA × List (Int × Int) × List (Int × Int) × List (Int × Int) × Int)) → Option α)) (k1 : Option α) : Option α :=
 cond (decide (x11 < (↑x14.length : Int))) (cond (decide (0 ≤ x11) && decide (x11 < (↑x14.length : Int))) (cond (decide (20 < (↑(x14.getD x11.toNat (eBA, [], [], [], 0)).fst.data.toList.length : Int))) (k0 (false) ((ByteArray.mk (#[]))) ([]) ([])) (cond (decide (26 < (↑(List.length (x14.getD x11.toNat (eBA, [], [], [], 0)).snd.fst) : Int))) (k0 (false) ((ByteArray.mk (#[]))) ([]) ([])) (cond (decide (26 < (↑(List.length (x14.getD x11.toNat (eBA, [], [], [], 0)).snd.snd.fst) : Int))) (k0 (false) ((ByteArray.mk (#[]))) ([]) ([])) (cond (decide (26 < (↑(List.length (x14.getD x11.toNat (eBA, [], [], [], 0)).snd.snd.snd.fst) : Int))) (k0 (false) ((ByteArray.mk (#[]))) ([]) ([])) (φ (IntKind.i64.wrap (x11 + 1))))))) (none)) (k1 )
def L1.f {α : Type} (N : Nat) (c2 : (List (BA × List (Int × Int) × List (Int × Int) × List (Int × Int) × Int))) : Nat → Int → (Bool → BA → (List (BA × Int × Int)) → (List (BA × List (Int × Int) × List (Int × Int) × List (Int × Int) × Int)) → Option α) → Option α → Option α
 | 0, _, _, _ => none
 | n + 1, d0, k0, k1 => L1.st N c2 (fun e0 => L1.f N c2 n e0 k0 k1) d0 k0 k1
def L1.up (d : L1.sh.T) (e0 : Int) : L1.sh.T := (((), ((), (e0, ()))), ((d.2.1.1, (d.2.1.2.1, (d.2.1.2.2.1, ()))), ((d.2.2.1.1, ((), ((), ()))), (d.2.2.2.1, (d.2.2.2.2.1, ())))))
def L1.k0 {α : Type} (d : L1.sh.T) (K : Cont α) : (Bool → BA → (List (BA × Int × Int)) → (List (BA × List (Int × Int) × List (Int × Int) × List (Int × Int) × Int)) → Option α) := fun y0 y1 y2 y3 => K (Exit.ret) (L1.x0.enc (((), ((), (y0, ()))), ((d.2.1.1, (d.2.1.2.1, (d.2.1.2.2.1, ()))), ((y1, ((), ((), ()))), (y2, (y3, ()))))))
def L1.k1 {α : Type} (d : L1.sh.T) (K : Cont α) : Option α := K (Exit.exit 2) (L1.x1.enc (((), ((), ((), ()))), ((d.2.1.1, (d.2.1.2.1, (d.2.1.2.2.1, ()))), ((d.2.2.1.1, ((), ((), ()))), (d.2.2.2.1, (d.2.2.2.2.1, ()))))))
def L1.F {α : Type} (N : Nat) (d : L1.sh.T) (K : Cont α) : Option α := L1.f N d.2.1.2.2.1 N d.1.2.2.1 (L1.k0 d K) (L1.k1 d K)
def ents11 {α : Type} (N : Nat) : List (SmE α) := [⟨0, 50, 4, [⟨L0.sh, L0.F N⟩]⟩, ⟨0, 50, 9, [⟨L1.sh, L1.F N⟩]⟩]
def C (N : Nat) : Ctx := ⟨tys, [], [], N⟩
def L0.B {α : Type} (N : Nat) : Env → Cont α → Option α := evC tys 76 0 (evCall (C N) 50) (evCallQ (C N)) N an11 (smL (ents11 N) 0 50) (loopOf 4 Tryd.f11)
theorem L0.r {α : Type} (N : Nat) (φ : Env → Option α) (K : Cont α) (d : L0.sh.T) : L0.B N (L0.sh.enc d) (contL φ K (Env.norm 0 [1, 2, 4]) (Env.norm 0 [1, 2, 3])) = L0.st N d.2.1.2.1 (fun e0 => φ (L0.sh.enc (L0.up d e0))) d.1.2.2.1 (L0.k0 d K) (L0.k1 d K) := by kernel_rfl
theorem L0.e {α : Type} (N : Nat) : ∀ (n : Nat) (d : L0.sh.T) (K : Cont α), evL (L0.B N) (Env.norm 0 [1, 2, 4]) (Env.norm 0 [1, 2, 3]) n (L0.sh.enc d) K = L0.f N d.2.1.2.1 n d.1.2.2.1 (L0.k0 d K) (L0.k1 d K)
 | 0, d, K => rfl
 | n + 1, d, K => evL_contL.trans ((L0.r N _ K d).trans (congrArg (fun φ => L0.st N d.2.1.2.1 φ d.1.2.2.1 (L0.k0 d K) (L0.k1 d K)) (funext fun e0 => L0.e N n (L0.up d e0) K)))
def L1.B {α : Type} (N : Nat) : Env → Cont α → Option α := evC tys 76 0 (evCall (C N) 50) (evCallQ (C N)) N an11 (smL (ents11 N) 0 50) (loopOf 9 Tryd.f11)
theorem L1.r {α : Type} (N : Nat) (φ : Env → Option α) (K : Cont α) (d : L1.sh.T) : L1.B N (L1.sh.enc d) (contL φ K (Env.norm 0 [1, 2, 5]) (Env.norm 0 [1, 2, 3])) = L1.st N d.2.1.2.2.1 (fun e0 => φ (L1.sh.enc (L1.up d e0))) d.1.2.2.1 (L1.k0 d K) (L1.k1 d K) := by kernel_rfl
theorem L1.e {α : Type} (N : Nat) : ∀ (n : Nat) (d : L1.sh.T) (K : Cont α), evL (L1.B N) (Env.norm 0 [1, 2, 5]) (Env.norm 0 [1, 2, 3]) n (L1.sh.enc d) K = L1.f N d.2.1.2.2.1 n d.1.2.2.1 (L1.k0 d K) (L1.k1 d K)
 | 0, d, K => rfl
 | n + 1, d, K => evL_contL.trans ((L1.r N _ K d).trans (congrArg (fun φ => L1.st N d.2.1.2.2.1 φ d.1.2.2.1 (L1.k0 d K) (L1.k1 d K)) (funext fun e0 => L1.e N n (L1.up d e0) K)))
theorem ents11_ok {α : Type} (N : Nat) : AllP (EntOk (C N) Tryd.f11 an11 (ents11 (α := α) N)) (ents11 N) := ⟨entOk_of (b0 := loopOf 4 Tryd.f11) (li0 := [1, 2, 4]) (lx0 := [1, 2, 3]) (by kernel_rfl) (by kernel_rfl) ⟨fun d K => L0.e N N d K, trivial⟩, entOk_of (b0 := loopOf 9 Tryd.f11) (li0 := [1, 2, 5]) (lx0 := [1, 2, 3]) (by kernel_rfl) (by kernel_rfl) ⟨fun d K => L1.e N N d K, trivial⟩, trivial⟩
def g {α : Type} (N : Nat) (a0 : BA × List (BA × Int × Int) × List (BA × List (Int × Int) × List (Int × Int) × List (Int × Int) × Int)) (kr : ((BA × List (BA × Int × Int) × List (BA × List (Int × Int) × List (Int × Int) × List (Int × Int) × Int)) → Bool → Option α)) : Option α :=
 cond (decide (26 < (↑(List.length a0.snd.fst) : Int))) (kr (((ByteArray.mk (#[])), [], [])) (false)) (cond (decide (26 < (↑(List.length a0.snd.snd) : Int))) (kr (((ByteArray.mk (#[])), [], [])) (false)) (cond (decide (20 < (↑a0.fst.data.toList.length : Int))) (kr (((ByteArray.mk (#[])), [], [])) (false)) (L0.f N (a0.snd.fst) N (0) (fun x7 x8 x9 x10 => kr ((x8, x9, x10)) (x7)) (L1.f N (a0.snd.snd) N (0) (fun x18 x19 x20 x21 => kr ((x19, x20, x21)) (x18)) (kr (a0) (true))))))
theorem eq (N : Nat) (a0 : BA × List (BA × Int × Int) × List (BA × List (Int × Int) × List (Int × Int) × List (Int × Int) × Int)) : evF (C N) 50 Tryd.f11 an11 (smL (ents11 N) 0 50) [((.st (.pr (.str) (.pr (.sl (.st (.pr (.str) (.pr (.int .i64) (.int .i64))))) (.sl (.st (.pr (.str) (.pr (.sl (.st (.pr (.int .i64) (.int .i64)))) (.pr (.sl (.st (.pr (.int .i64) (.int .i64)))) (.pr (.sl (.st (.pr (.int .i64) (.int .i64)))) (.int .i64))))))))) : K), false), ((.bool : K), false)] [⟨.st (.pr (.str) (.pr (.sl (.st (.pr (.str) (.pr (.int .i64) (.int .i64))))) (.sl (.st (.pr (.str) (.pr (.sl (.st (.pr (.int .i64) (.int .i64)))) (.pr (.sl (.st (.pr (.int .i64) (.int .i64)))) (.pr (.sl (.st (.pr (.int .i64) (.int .i64)))) (.int .i64))))))))), a0⟩] = g N a0 (fun r0 r1 => some [.dat ((K.str.pr ((K.str.pr ((K.int IntKind.i64).pr (K.int IntKind.i64))).st.sl.pr (K.str.pr (((K.int IntKind.i64).pr (K.int IntKind.i64)).st.sl.pr (((K.int IntKind.i64).pr (K.int IntKind.i64)).st.sl.pr (((K.int IntKind.i64).pr (K.int IntKind.i64)).st.sl.pr (K.int IntKind.i64))))).st.sl)).st) r0, .dat (K.bool) r1]) := by kernel_rfl
theorem ctxOk (N : Nat) : CtxOk P (C N) := ctxOk_of tysOk mixedOk trivial trivial
theorem calls (N : Nat) (a0 : BA × List (BA × Int × Int) × List (BA × List (Int × Int) × List (Int × Int) × List (Int × Int) × Int)) {rs : List Rs} (h : g N a0 (fun r0 r1 => some [.dat ((K.str.pr ((K.str.pr ((K.int IntKind.i64).pr (K.int IntKind.i64))).st.sl.pr (K.str.pr (((K.int IntKind.i64).pr (K.int IntKind.i64)).st.sl.pr (((K.int IntKind.i64).pr (K.int IntKind.i64)).st.sl.pr (((K.int IntKind.i64).pr (K.int IntKind.i64)).st.sl.pr (K.int IntKind.i64))))).st.sl)).st) r0, .dat (K.bool) r1]) = some rs) : CallsTo P 11 [⟨.st (.pr (.str) (.pr (.sl (.st (.pr (.str) (.pr (.int .i64) (.int .i64))))) (.sl (.st (.pr (.str) (.pr (.sl (.st (.pr (.int .i64) (.int .i64)))) (.pr (.sl (.st (.pr (.int .i64) (.int .i64)))) (.pr (.sl (.st (.pr (.int .i64) (.int .i64)))) (.int .i64))))))))), a0⟩] rs := evF_calls' (ctxOk N) (by rfl) (ents11_ok N) ((eq N a0).trans h)
def L0.l {α : Type} (N : Nat) (x2 : (List (BA × Int × Int))) (k0 : (Bool → BA → (List (BA × Int × Int)) → (List (BA × List (Int × Int) × List (Int × Int) × List (Int × Int) × Int)) → Option α)) (k1 : Option α) : List (BA × Int × Int) → Int → Option α
 | [], x0 => k1 
 | x :: l, x0 => (cond (decide (20 < (↑x.fst.data.toList.length : Int))) (k0 (false) ((ByteArray.mk (#[]))) ([]) ([])) (L0.l N x2 k0 k1 l (x0 + 1)))
theorem L0.rng {α : Type} {N : Nat} (x2 : (List (BA × Int × Int))) (hl : x2.length ≤ maxLen) (k0 : (Bool → BA → (List (BA × Int × Int)) → (List (BA × List (Int × Int) × List (Int × Int) × List (Int × Int) × Int)) → Option α)) (k1 : Option α) : ∀ (n j : Nat), x2.length < n + j → j ≤ x2.length → L0.f N x2 n (j : Int) k0 k1 = L0.l N x2 k0 k1 (x2.drop j) (j : Int) :=
 rng0 x2 hl (fun n i => L0.f N x2 n i k0 k1) (fun l i => L0.l N x2 k0 k1 l i) (fun n j hj h ih => by simp only [L0.f, L0.st, L0.l, h.a, h.b, h.c, h.d, h.e, Bool.true_and, Bool.and_true, Bool.and_self, cond_true, ih] <;> rfl) (fun n j h => by simp only [L0.f, L0.st, L0.l, h, cond_false])
def L1.l {α : Type} (N : Nat) (x14 : (List (BA × List (Int × Int) × List (Int × Int) × List (Int × Int) × Int))) (k0 : (Bool → BA → (List (BA × Int × Int)) → (List (BA × List (Int × Int) × List (Int × Int) × List (Int × Int) × Int)) → Option α)) (k1 : Option α) : List (BA × List (Int × Int) × List (Int × Int) × List (Int × Int) × Int) → Int → Option α
 | [], x11 => k1 
 | x :: l, x11 => (cond (decide (20 < (↑x.fst.data.toList.length : Int))) (k0 (false) ((ByteArray.mk (#[]))) ([]) ([])) (cond (decide (26 < (↑(List.length x.snd.fst) : Int))) (k0 (false) ((ByteArray.mk (#[]))) ([]) ([])) (cond (decide (26 < (↑(List.length x.snd.snd.fst) : Int))) (k0 (false) ((ByteArray.mk (#[]))) ([]) ([])) (cond (decide (26 < (↑(List.length x.snd.snd.snd.fst) : Int))) (k0 (false) ((ByteArray.mk (#[]))) ([]) ([])) (L1.l N x14 k0 k1 l (x11 + 1))))))
theorem L1.rng {α : Type} {N : Nat} (x14 : (List (BA × List (Int × Int) × List (Int × Int) × List (Int × Int) × Int))) (hl : x14.length ≤ maxLen) (k0 : (Bool → BA → (List (BA × Int × Int)) → (List (BA × List (Int × Int) × List (Int × Int) × List (Int × Int) × Int)) → Option α)) (k1 : Option α) : ∀ (n j : Nat), x14.length < n + j → j ≤ x14.length → L1.f N x14 n (j : Int) k0 k1 = L1.l N x14 k0 k1 (x14.drop j) (j : Int) :=
 rng0 x14 hl (fun n i => L1.f N x14 n i k0 k1) (fun l i => L1.l N x14 k0 k1 l i) (fun n j hj h ih => by simp only [L1.f, L1.st, L1.l, h.a, h.b, h.c, h.d, h.e, Bool.true_and, Bool.and_true, Bool.and_self, cond_true, ih] <;> rfl) (fun n j h => by simp only [L1.f, L1.st, L1.l, h, cond_false])
end pf09_Small
theorem pf09_Small.L0.law {α : Type} {N : Nat} (x2 : (List (BA × Int × Int))) (k0 : (Bool → BA → (List (BA × Int × Int)) → (List (BA × List (Int × Int) × List (Int × Int) × List (Int × Int) × Int)) → Option α)) (k1 : Option α) : ∀ l j, pf09_Small.L0.l N x2 k0 k1 l j = cond (l.all fun p => decide (p.1.data.toList.length ≤ 20)) k1 (k0 false ⟨#[]⟩ [] [])
 | [], j => rfl
 | x :: l, j => by
  rw [pf09_Small.L0.l, pf09_Small.L0.law, List.all_cons]
  by_cases h : x.1.data.toList.length ≤ 20
  ·
   rw [decide_eq_true h, decide_eq_false (by omega)]; rfl
  ·
   rw [decide_eq_false h, decide_eq_true (by omega)]; rfl
theorem dle26 (n : Nat) : decide (26 < (n : Int)) = !decide (n ≤ 26) := by
 by_cases h : n ≤ 26
 ·
  rw [decide_eq_true h, decide_eq_false (by omega)]; rfl
 ·
  rw [decide_eq_false h, decide_eq_true (by omega)]; rfl
theorem dle20 (n : Nat) : decide (20 < (n : Int)) = !decide (n ≤ 20) := by
 by_cases h : n ≤ 20
 ·
  rw [decide_eq_true h, decide_eq_false (by omega)]; rfl
 ·
  rw [decide_eq_false h, decide_eq_true (by omega)]; rfl
theorem pf09_Small.L1.law {α : Type} {N : Nat} (x14 : (List (BA × List (Int × Int) × List (Int × Int) × List (Int × Int) × Int))) (k0 : (Bool → BA → (List (BA × Int × Int)) → (List (BA × List (Int × Int) × List (Int × Int) × List (Int × Int) × Int)) → Option α)) (k1 : Option α) : ∀ l j, pf09_Small.L1.l N x14 k0 k1 l j = cond (l.all fun t => decide (t.1.data.toList.length ≤ 20) && decide (t.2.1.length ≤ 26) && decide (t.2.2.1.length ≤ 26) && decide (t.2.2.2.1.length ≤ 26)) k1 (k0 false ⟨#[]⟩ [] [])
 | [], j => rfl
 | x :: l, j => by
  rw [pf09_Small.L1.l, pf09_Small.L1.law, List.all_cons]
  simp only [dle26, dle20]
  cases decide (x.1.data.toList.length ≤ 20)
  ·
   rfl
  cases decide (x.2.1.length ≤ 26)
  ·
   rfl
  cases decide (x.2.2.1.length ≤ 26)
  ·
   rfl
  cases decide (x.2.2.2.1.length ≤ 26) <;> rfl
theorem pf09_Small.law {α : Type} {N : Nat} (hN : 18446744073709551616 ≤ N) (a0 : BA × (List (BA × Int × Int)) × List (BA × (List (Int × Int)) × (List (Int × Int)) × (List (Int × Int)) × Int)) (w0 : K.wf (.st (.pr (.str) (.pr (.sl (.st (.pr (.str) (.pr (.int .i64) (.int .i64))))) (.sl (.st (.pr (.str) (.pr (.sl (.st (.pr (.int .i64) (.int .i64)))) (.pr (.sl (.st (.pr (.int .i64) (.int .i64)))) (.pr (.sl (.st (.pr (.int .i64) (.int .i64)))) (.int .i64)))))))))) a0) (kr : ((BA × (List (BA × Int × Int)) × List (BA × (List (Int × Int)) × (List (Int × Int)) × (List (Int × Int)) × Int)) → Bool → Option α)) : pf09_Small.g N a0 kr = kr (pf09_Small.spec a0).1 (pf09_Small.spec a0).2 := by
 unfold pf09_Small.g pf09_Small.spec smallN
 simp only [dle26, dle20]
 cases decide (List.length a0.2.1 ≤ 26)
 ·
  rfl
 cases decide (List.length a0.2.2 ≤ 26)
 ·
  rfl
 cases decide (a0.1.data.toList.length ≤ 20)
 ·
  rfl
 simp only [Bool.not_true, cond_false, Bool.true_and]
 refine (pf09_Small.L0.rng (N := N) _ (w0.2.1.1) _ _ N 0  (by have := le_fuel (w0.2.1.1) hN; omega) (Nat.zero_le _)).trans ?_
 rw [List.drop_zero, pf09_Small.L0.law]
 cases List.all a0.2.1 _
 ·
  rfl
 simp only [cond_true, Bool.true_and]
 refine (pf09_Small.L1.rng (N := N) _ (w0.2.2.1) _ _ N 0  (by have := le_fuel (w0.2.2.1) hN; omega) (Nat.zero_le _)).trans ?_
 rw [List.drop_zero, pf09_Small.L1.law]
 cases List.all a0.2.2 _ <;> rfl
theorem pf09_Small.ok : FentOk P 11 pf09_Small.fent := fentOk_of (by kernel_rfl) fun ds hk => by
 obtain ⟨a0, l0, rfl, h0⟩ := ds_cons hk
 obtain rfl := ds0 h0
 exact ⟨true, [.dat (.st (.pr (.str) (.pr (.sl (.st (.pr (.str) (.pr (.int .i64) (.int .i64))))) (.sl (.st (.pr (.str) (.pr (.sl (.st (.pr (.int .i64) (.int .i64)))) (.pr (.sl (.st (.pr (.int .i64) (.int .i64)))) (.pr (.sl (.st (.pr (.int .i64) (.int .i64)))) (.int .i64)))))))))) (pf09_Small.spec a0).1, .dat (.bool) (pf09_Small.spec a0).2], fun h hw => pf09_Small.calls 18446744073709551616 a0 (pf09_Small.law (Nat.le_refl _) a0 hw.1 _), fun α k => rfl⟩
end Go.VI
namespace Go.VI
open Go Go.Proofs
namespace strconv_Itoa
def an39 : Ann := []
def an73 : Ann := []
def an91 : Ann := []
def an96 : Ann := []
def an97 : Ann := []
def an98 : Ann := [(1, [0, 1, 4], [0, 1, 4])]
def an99 : Ann := [(11, [0, 1, 3, 4, 10, 11, 12, 13, 14, 15, 16], [0, 1, 3, 4, 10, 11, 12, 13]), (18, [0, 1, 3, 4, 10, 11, 12, 13, 17], [0, 1, 3, 4, 10, 11, 12, 13])]
def an100 : Ann := []
def an101 : Ann := []
def an102 : Ann := []
def an103 : Ann := []
def an104 : Ann := []
def an105 : Ann := []
def an106 : Ann := []
def ents39 {α : Type} (N : Nat) : List (SmE α) := []
def ents73 {α : Type} (N : Nat) : List (SmE α) := []
def ents91 {α : Type} (N : Nat) : List (SmE α) := []
def ents96 {α : Type} (N : Nat) : List (SmE α) := []
def ents97 {α : Type} (N : Nat) : List (SmE α) := []
def ents98 {α : Type} (N : Nat) : List (SmE α) := []
def ents99 {α : Type} (N : Nat) : List (SmE α) := []
def ents100 {α : Type} (N : Nat) : List (SmE α) := []
def ents101 {α : Type} (N : Nat) : List (SmE α) := []
def ents102 {α : Type} (N : Nat) : List (SmE α) := []
def ents103 {α : Type} (N : Nat) : List (SmE α) := []
def ents104 {α : Type} (N : Nat) : List (SmE α) := []
def ents105 {α : Type} (N : Nat) : List (SmE α) := []
def ents106 {α : Type} (N : Nat) : List (SmE α) := []
def C (N : Nat) : Ctx := ⟨tys, [], [(73, ⟨Tryd.f73, an73, fun α lo d r => smL (ents73 N) lo d r⟩), (91, ⟨Tryd.f91, an91, fun α lo d r => smL (ents91 N) lo d r⟩), (96, ⟨Tryd.f96, an96, fun α lo d r => smL (ents96 N) lo d r⟩), (97, ⟨Tryd.f97, an97, fun α lo d r => smL (ents97 N) lo d r⟩), (98, ⟨Tryd.f98, an98, fun α lo d r => smL (ents98 N) lo d r⟩), (99, ⟨Tryd.f99, an99, fun α lo d r => smL (ents99 N) lo d r⟩), (100, ⟨Tryd.f100, an100, fun α lo d r => smL (ents100 N) lo d r⟩), (101, ⟨Tryd.f101, an101, fun α lo d r => smL (ents101 N) lo d r⟩), (102, ⟨Tryd.f102, an102, fun α lo d r => smL (ents102 N) lo d r⟩), (103, ⟨Tryd.f103, an103, fun α lo d r => smL (ents103 N) lo d r⟩), (104, ⟨Tryd.f104, an104, fun α lo d r => smL (ents104 N) lo d r⟩), (105, ⟨Tryd.f105, an105, fun α lo d r => smL (ents105 N) lo d r⟩), (106, ⟨Tryd.f106, an106, fun α lo d r => smL (ents106 N) lo d r⟩)], N⟩
theorem ents39_ok {α : Type} (N : Nat) : AllP (EntOk (C N) Tryd.f39 an39 (ents39 (α := α) N)) (ents39 N) := trivial
theorem ents73_ok {α : Type} (N : Nat) : AllP (EntOk (C N) Tryd.f73 an73 (ents73 (α := α) N)) (ents73 N) := trivial
theorem ents91_ok {α : Type} (N : Nat) : AllP (EntOk (C N) Tryd.f91 an91 (ents91 (α := α) N)) (ents91 N) := trivial
theorem ents96_ok {α : Type} (N : Nat) : AllP (EntOk (C N) Tryd.f96 an96 (ents96 (α := α) N)) (ents96 N) := trivial
theorem ents97_ok {α : Type} (N : Nat) : AllP (EntOk (C N) Tryd.f97 an97 (ents97 (α := α) N)) (ents97 N) := trivial
theorem ents98_ok {α : Type} (N : Nat) : AllP (EntOk (C N) Tryd.f98 an98 (ents98 (α := α) N)) (ents98 N) := trivial
theorem ents99_ok {α : Type} (N : Nat) : AllP (EntOk (C N) Tryd.f99 an99 (ents99 (α := α) N)) (ents99 N) := trivial
theorem ents100_ok {α : Type} (N : Nat) : AllP (EntOk (C N) Tryd.f100 an100 (ents100 (α := α) N)) (ents100 N) := trivial
theorem ents101_ok {α : Type} (N : Nat) : AllP (EntOk (C N) Tryd.f101 an101 (ents101 (α := α) N)) (ents101 N) := trivial
theorem ents102_ok {α : Type} (N : Nat) : AllP (EntOk (C N) Tryd.f102 an102 (ents102 (α := α) N)) (ents102 N) := trivial
theorem ents103_ok {α : Type} (N : Nat) : AllP (EntOk (C N) Tryd.f103 an103 (ents103 (α := α) N)) (ents103 N) := trivial
theorem ents104_ok {α : Type} (N : Nat) : AllP (EntOk (C N) Tryd.f104 an104 (ents104 (α := α) N)) (ents104 N) := trivial
theorem ents105_ok {α : Type} (N : Nat) : AllP (EntOk (C N) Tryd.f105 an105 (ents105 (α := α) N)) (ents105 N) := trivial
theorem ents106_ok {α : Type} (N : Nat) : AllP (EntOk (C N) Tryd.f106 an106 (ents106 (α := α) N)) (ents106 N) := trivial
def g {α : Type} (N : Nat) (a0 : Int) (kr : (BA → Option α)) : Option α :=
 cond (decide (0 ≤ a0)) (cond (decide (a0 < 100)) (cond (decide (a0 < 10)) (cond (decide (0 ≤ a0) && decide (a0 ≤ IntKind.i64.wrap (a0 + 1)) && decide (IntKind.i64.wrap (a0 + 1) ≤ (↑(ByteArray.mk (#[48, 49, 50, 51, 52, 53, 54, 55, 56, 57, 97, 98, 99, 100, 101, 102, 103, 104, 105, 106, 107, 108, 109, 110, 111, 112, 113, 114, 115, 116, 117, 118, 119, 120, 121, 122])).data.toList.length : Int))) (kr ((ByteArray.mk ((Array.mk (List.drop a0.toNat (List.take (IntKind.i64.wrap (a0 + 1)).toNat (ByteArray.mk (#[48, 49, 50, 51, 52, 53, 54, 55, 56, 57, 97, 98, 99, 100, 101, 102, 103, 104, 105, 106, 107, 108, 109, 110, 111, 112, 113, 114, 115, 116, 117, 118, 119, 120, 121, 122])).data.toList))))))) (none)) (cond (decide (0 ≤ IntKind.i64.wrap (a0 * 2)) && decide (IntKind.i64.wrap (a0 * 2) ≤ IntKind.i64.wrap (IntKind.i64.wrap (a0 * 2) + 2)) && decide (IntKind.i64.wrap (IntKind.i64.wrap (a0 * 2) + 2) ≤ (↑(ByteArray.mk ((([48, 48, 48, 49, 48, 50, 48, 51, 48, 52, 48, 53, 48, 54, 48, 55, 48, 56, 48, 57, 49, 48, 49, 49, 49, 50, 49, 51, 49, 52, 49, 53, 49, 54, 49, 55, 49, 56, 49, 57, 50, 48, 50, 49, 50, 50, 50, 51, 50, 52].append [50, 53, 50, 54, 50, 55, 50, 56, 50, 57, 51, 48, 51, 49, 51, 50, 51, 51, 51, 52, 51, 53, 51, 54, 51, 55, 51, 56, 51, 57, 52, 48, 52, 49, 52, 50, 52, 51, 52, 52, 52, 53, 52, 54, 52, 55, 52, 56, 52, 57]).append ([53, 48, 53, 49, 53, 50, 53, 51, 53, 52, 53, 53, 53, 54, 53, 55, 53, 56, 53, 57, 54, 48, 54, 49, 54, 50, 54, 51, 54, 52, 54, 53, 54, 54, 54, 55, 54, 56, 54, 57, 55, 48, 55, 49, 55, 50, 55, 51, 55, 52].append [55, 53, 55, 54, 55, 55, 55, 56, 55, 57, 56, 48, 56, 49, 56, 50, 56, 51, 56, 52, 56, 53, 56, 54, 56, 55, 56, 56, 56, 57, 57, 48, 57, 49, 57, 50, 57, 51, 57, 52, 57, 53, 57, 54, 57, 55, 57, 56, 57, 57])).toArray)).data.toList.length : Int))) (kr ((ByteArray.mk ((Array.mk (List.drop (IntKind.i64.wrap (a0 * 2)).toNat (List.take (IntKind.i64.wrap (IntKind.i64.wrap (a0 * 2) + 2)).toNat (ByteArray.mk ((([48, 48, 48, 49, 48, 50, 48, 51, 48, 52, 48, 53, 48, 54, 48, 55, 48, 56, 48, 57, 49, 48, 49, 49, 49, 50, 49, 51, 49, 52, 49, 53, 49, 54, 49, 55, 49, 56, 49, 57, 50, 48, 50, 49, 50, 50, 50, 51, 50, 52].append [50, 53, 50, 54, 50, 55, 50, 56, 50, 57, 51, 48, 51, 49, 51, 50, 51, 51, 51, 52, 51, 53, 51, 54, 51, 55, 51, 56, 51, 57, 52, 48, 52, 49, 52, 50, 52, 51, 52, 52, 52, 53, 52, 54, 52, 55, 52, 56, 52, 57]).append ([53, 48, 53, 49, 53, 50, 53, 51, 53, 52, 53, 53, 53, 54, 53, 55, 53, 56, 53, 57, 54, 48, 54, 49, 54, 50, 54, 51, 54, 52, 54, 53, 54, 54, 54, 55, 54, 56, 54, 57, 55, 48, 55, 49, 55, 50, 55, 51, 55, 52].append [55, 53, 55, 54, 55, 55, 55, 56, 55, 57, 56, 48, 56, 49, 56, 50, 56, 51, 56, 52, 56, 53, 56, 54, 56, 55, 56, 56, 56, 57, 57, 48, 57, 49, 57, 50, 57, 51, 57, 52, 57, 53, 57, 54, 57, 55, 57, 56, 57, 57])).toArray)).data.toList))))))) (none))) (cond (decide (a0 < 0)) (cond (decide (4294967296 ≤ IntKind.u64.wrap (0 - IntKind.u64.wrap a0))) (cond (decide (65536 ≤ (IntKind.u64.wrap (0 - IntKind.u64.wrap a0)).fdiv (2 ^ min (Int.toNat 32) IntKind.u64.bits))) (cond (decide (256 ≤ ((IntKind.u64.wrap (0 - IntKind.u64.wrap a0)).fdiv (2 ^ min (Int.toNat 32) IntKind.u64.bits)).fdiv (2 ^ min (Int.toNat 16) IntKind.u64.bits))) (cond (decide (0 ≤ IntKind.u8.wrap ((((IntKind.u64.wrap (0 - IntKind.u64.wrap a0)).fdiv (2 ^ min (Int.toNat 32) IntKind.u64.bits)).fdiv (2 ^ min (Int.toNat 16) IntKind.u64.bits)).fdiv (2 ^ min (Int.toNat 8) IntKind.u64.bits))) && decide (IntKind.u8.wrap ((((IntKind.u64.wrap (0 - IntKind.u64.wrap a0)).fdiv (2 ^ min (Int.toNat 32) IntKind.u64.bits)).fdiv (2 ^ min (Int.toNat 16) IntKind.u64.bits)).fdiv (2 ^ min (Int.toNat 8) IntKind.u64.bits)) < (↑(ByteArray.mk ((([0, 1, 2, 2, 3, 3, 3, 3, 4, 4, 4, 4, 4, 4, 4, 4, 5, 5, 5, 5, 5, 5, 5, 5, 5, 5, 5, 5, 5, 5, 5, 5, 6, 6, 6, 6, 6, 6, 6, 6, 6, 6, 6, 6, 6, 6, 6, 6, 6, 6, 6, 6, 6, 6, 6, 6, 6, 6, 6, 6, 6, 6, 6, 6].append [7, 7, 7, 7, 7, 7, 7, 7, 7, 7, 7, 7, 7, 7, 7, 7, 7, 7, 7, 7, 7, 7, 7, 7, 7, 7, 7, 7, 7, 7, 7, 7, 7, 7, 7, 7, 7, 7, 7, 7, 7, 7, 7, 7, 7, 7, 7, 7, 7, 7, 7, 7, 7, 7, 7, 7, 7, 7, 7, 7, 7, 7, 7, 7]).append ([8, 8, 8, 8, 8, 8, 8, 8, 8, 8, 8, 8, 8, 8, 8, 8, 8, 8, 8, 8, 8, 8, 8, 8, 8, 8, 8, 8, 8, 8, 8, 8, 8, 8, 8, 8, 8, 8, 8, 8, 8, 8, 8, 8, 8, 8, 8, 8, 8, 8, 8, 8, 8, 8, 8, 8, 8, 8, 8, 8, 8, 8, 8, 8].append [8, 8, 8, 8, 8, 8, 8, 8, 8, 8, 8, 8, 8, 8, 8, 8, 8, 8, 8, 8, 8, 8, 8, 8, 8, 8, 8, 8, 8, 8, 8, 8, 8, 8, 8, 8, 8, 8, 8, 8, 8, 8, 8, 8, 8, 8, 8, 8, 8, 8, 8, 8, 8, 8, 8, 8, 8, 8, 8, 8, 8, 8, 8, 8])).toArray)).data.toList.length : Int))) (none) (none)) (cond (decide (0 ≤ IntKind.u8.wrap (((IntKind.u64.wrap (0 - IntKind.u64.wrap a0)).fdiv (2 ^ min (Int.toNat 32) IntKind.u64.bits)).fdiv (2 ^ min (Int.toNat 16) IntKind.u64.bits))) && decide (IntKind.u8.wrap (((IntKind.u64.wrap (0 - IntKind.u64.wrap a0)).fdiv (2 ^ min (Int.toNat 32) IntKind.u64.bits)).fdiv (2 ^ min (Int.toNat 16) IntKind.u64.bits)) < (↑(ByteArray.mk ((([0, 1, 2, 2, 3, 3, 3, 3, 4, 4, 4, 4, 4, 4, 4, 4, 5, 5, 5, 5, 5, 5, 5, 5, 5, 5, 5, 5, 5, 5, 5, 5, 6, 6, 6, 6, 6, 6, 6, 6, 6, 6, 6, 6, 6, 6, 6, 6, 6, 6, 6, 6, 6, 6, 6, 6, 6, 6, 6, 6, 6, 6, 6, 6].append [7, 7, 7, 7, 7, 7, 7, 7, 7, 7, 7, 7, 7, 7, 7, 7, 7, 7, 7, 7, 7, 7, 7, 7, 7, 7, 7, 7, 7, 7, 7, 7, 7, 7, 7, 7, 7, 7, 7, 7, 7, 7, 7, 7, 7, 7, 7, 7, 7, 7, 7, 7, 7, 7, 7, 7, 7, 7, 7, 7, 7, 7, 7, 7]).append ([8, 8, 8, 8, 8, 8, 8, 8, 8, 8, 8, 8, 8, 8, 8, 8, 8, 8, 8, 8, 8, 8, 8, 8, 8, 8, 8, 8, 8, 8, 8, 8, 8, 8, 8, 8, 8, 8, 8, 8, 8, 8, 8, 8, 8, 8, 8, 8, 8, 8, 8, 8, 8, 8, 8, 8, 8, 8, 8, 8, 8, 8, 8, 8].append [8, 8, 8, 8, 8, 8, 8, 8, 8, 8, 8, 8, 8, 8, 8, 8, 8, 8, 8, 8, 8, 8, 8, 8, 8, 8, 8, 8, 8, 8, 8, 8, 8, 8, 8, 8, 8, 8, 8, 8, 8, 8, 8, 8, 8, 8, 8, 8, 8, 8, 8, 8, 8, 8, 8, 8, 8, 8, 8, 8, 8, 8, 8, 8])).toArray)).data.toList.length : Int))) (none) (none))) (cond (decide (256 ≤ (IntKind.u64.wrap (0 - IntKind.u64.wrap a0)).fdiv (2 ^ min (Int.toNat 32) IntKind.u64.bits))) (cond (decide (0 ≤ IntKind.u8.wrap (((IntKind.u64.wrap (0 - IntKind.u64.wrap a0)).fdiv (2 ^ min (Int.toNat 32) IntKind.u64.bits)).fdiv (2 ^ min (Int.toNat 8) IntKind.u64.bits))) && decide (IntKind.u8.wrap (((IntKind.u64.wrap (0 - IntKind.u64.wrap a0)).fdiv (2 ^ min (Int.toNat 32) IntKind.u64.bits)).fdiv (2 ^ min (Int.toNat 8) IntKind.u64.bits)) < (↑(ByteArray.mk ((([0, 1, 2, 2, 3, 3, 3, 3, 4, 4, 4, 4, 4, 4, 4, 4, 5, 5, 5, 5, 5, 5, 5, 5, 5, 5, 5, 5, 5, 5, 5, 5, 6, 6, 6, 6, 6, 6, 6, 6, 6, 6, 6, 6, 6, 6, 6, 6, 6, 6, 6, 6, 6, 6, 6, 6, 6, 6, 6, 6, 6, 6, 6, 6].append [7, 7, 7, 7, 7, 7, 7, 7, 7, 7, 7, 7, 7, 7, 7, 7, 7, 7, 7, 7, 7, 7, 7, 7, 7, 7, 7, 7, 7, 7, 7, 7, 7, 7, 7, 7, 7, 7, 7, 7, 7, 7, 7, 7, 7, 7, 7, 7, 7, 7, 7, 7, 7, 7, 7, 7, 7, 7, 7, 7, 7, 7, 7, 7]).append ([8, 8, 8, 8, 8, 8, 8, 8, 8, 8, 8, 8, 8, 8, 8, 8, 8, 8, 8, 8, 8, 8, 8, 8, 8, 8, 8, 8, 8, 8, 8, 8, 8, 8, 8, 8, 8, 8, 8, 8, 8, 8, 8, 8, 8, 8, 8, 8, 8, 8, 8, 8, 8, 8, 8, 8, 8, 8, 8, 8, 8, 8, 8, 8].append [8, 8, 8, 8, 8, 8, 8, 8, 8, 8, 8, 8, 8, 8, 8, 8, 8, 8, 8, 8, 8, 8, 8, 8, 8, 8, 8, 8, 8, 8, 8, 8, 8, 8, 8, 8, 8, 8, 8, 8, 8, 8, 8, 8, 8, 8, 8, 8, 8, 8, 8, 8, 8, 8, 8, 8, 8, 8, 8, 8, 8, 8, 8, 8])).toArray)).data.toList.length : Int))) (none) (none)) (cond (decide (0 ≤ IntKind.u8.wrap ((IntKind.u64.wrap (0 - IntKind.u64.wrap a0)).fdiv (2 ^ min (Int.toNat 32) IntKind.u64.bits))) && decide (IntKind.u8.wrap ((IntKind.u64.wrap (0 - IntKind.u64.wrap a0)).fdiv (2 ^ min (Int.toNat 32) IntKind.u64.bits)) < (↑(ByteArray.mk ((([0, 1, 2, 2, 3, 3, 3, 3, 4, 4, 4, 4, 4, 4, 4, 4, 5, 5, 5, 5, 5, 5, 5, 5, 5, 5, 5, 5, 5, 5, 5, 5, 6, 6, 6, 6, 6, 6, 6, 6, 6, 6, 6, 6, 6, 6, 6, 6, 6, 6, 6, 6, 6, 6, 6, 6, 6, 6, 6, 6, 6, 6, 6, 6].append [7, 7, 7, 7, 7, 7, 7, 7, 7, 7, 7, 7, 7, 7, 7, 7, 7, 7, 7, 7, 7, 7, 7, 7, 7, 7, 7, 7, 7, 7, 7, 7, 7, 7, 7, 7, 7, 7, 7, 7, 7, 7, 7, 7, 7, 7, 7, 7, 7, 7, 7, 7, 7, 7, 7, 7, 7, 7, 7, 7, 7, 7, 7, 7]).append ([8, 8, 8, 8, 8, 8, 8, 8, 8, 8, 8, 8, 8, 8, 8, 8, 8, 8, 8, 8, 8, 8, 8, 8, 8, 8, 8, 8, 8, 8, 8, 8, 8, 8, 8, 8, 8, 8, 8, 8, 8, 8, 8, 8, 8, 8, 8, 8, 8, 8, 8, 8, 8, 8, 8, 8, 8, 8, 8, 8, 8, 8, 8, 8].append [8, 8, 8, 8, 8, 8, 8, 8, 8, 8, 8, 8, 8, 8, 8, 8, 8, 8, 8, 8, 8, 8, 8, 8, 8, 8, 8, 8, 8, 8, 8, 8, 8, 8, 8, 8, 8, 8, 8, 8, 8, 8, 8, 8, 8, 8, 8, 8, 8, 8, 8, 8, 8, 8, 8, 8, 8, 8, 8, 8, 8, 8, 8, 8])).toArray)).data.toList.length : Int))) (none) (none)))) (cond (decide (65536 ≤ IntKind.u64.wrap (0 - IntKind.u64.wrap a0))) (cond (decide (256 ≤ (IntKind.u64.wrap (0 - IntKind.u64.wrap a0)).fdiv (2 ^ min (Int.toNat 16) IntKind.u64.bits))) (cond (decide (0 ≤ IntKind.u8.wrap (((IntKind.u64.wrap (0 - IntKind.u64.wrap a0)).fdiv (2 ^ min (Int.toNat 16) IntKind.u64.bits)).fdiv (2 ^ min (Int.toNat 8) IntKind.u64.bits))) && decide (IntKind.u8.wrap (((IntKind.u64.wrap (0 - IntKind.u64.wrap a0)).fdiv (2 ^ min (Int.toNat 16) IntKind.u64.bits)).fdiv (2 ^ min (Int.toNat 8) IntKind.u64.bits)) < (↑(ByteArray.mk ((([0, 1, 2, 2, 3, 3, 3, 3, 4, 4, 4, 4, 4, 4, 4, 4, 5, 5, 5, 5, 5, 5, 5, 5, 5, 5, 5, 5, 5, 5, 5, 5, 6, 6, 6, 6, 6, 6, 6, 6, 6, 6, 6, 6, 6, 6, 6, 6, 6, 6, 6, 6, 6, 6, 6, 6, 6, 6, 6, 6, 6, 6, 6, 6].append [7, 7, 7, 7, 7, 7, 7, 7, 7, 7, 7, 7, 7, 7, 7, 7, 7, 7, 7, 7, 7, 7, 7, 7, 7, 7, 7, 7, 7, 7, 7, 7, 7, 7, 7, 7, 7, 7, 7, 7, 7, 7, 7, 7, 7, 7, 7, 7, 7, 7, 7, 7, 7, 7, 7, 7, 7, 7, 7, 7, 7, 7, 7, 7]).append ([8, 8, 8, 8, 8, 8, 8, 8, 8, 8, 8, 8, 8, 8, 8, 8, 8, 8, 8, 8, 8, 8, 8, 8, 8, 8, 8, 8, 8, 8, 8, 8, 8, 8, 8, 8, 8, 8, 8, 8, 8, 8, 8, 8, 8, 8, 8, 8, 8, 8, 8, 8, 8, 8, 8, 8, 8, 8, 8, 8, 8, 8, 8, 8].append [8, 8, 8, 8, 8, 8, 8, 8, 8, 8, 8, 8, 8, 8, 8, 8, 8, 8, 8, 8, 8, 8, 8, 8, 8, 8, 8, 8, 8, 8, 8, 8, 8, 8, 8, 8, 8, 8, 8, 8, 8, 8, 8, 8, 8, 8, 8, 8, 8, 8, 8, 8, 8, 8, 8, 8, 8, 8, 8, 8, 8, 8, 8, 8])).toArray)).data.toList.length : Int))) (none) (none)) (cond (decide (0 ≤ IntKind.u8.wrap ((IntKind.u64.wrap (0 - IntKind.u64.wrap a0)).fdiv (2 ^ min (Int.toNat 16) IntKind.u64.bits))) && decide (IntKind.u8.wrap ((IntKind.u64.wrap (0 - IntKind.u64.wrap a0)).fdiv (2 ^ min (Int.toNat 16) IntKind.u64.bits)) < (↑(ByteArray.mk ((([0, 1, 2, 2, 3, 3, 3, 3, 4, 4, 4, 4, 4, 4, 4, 4, 5, 5, 5, 5, 5, 5, 5, 5, 5, 5, 5, 5, 5, 5, 5, 5, 6, 6, 6, 6, 6, 6, 6, 6, 6, 6, 6, 6, 6, 6, 6, 6, 6, 6, 6, 6, 6, 6, 6, 6, 6, 6, 6, 6, 6, 6, 6, 6].append [7, 7, 7, 7, 7, 7, 7, 7, 7, 7, 7, 7, 7, 7, 7, 7, 7, 7, 7, 7, 7, 7, 7, 7, 7, 7, 7, 7, 7, 7, 7, 7, 7, 7, 7, 7, 7, 7, 7, 7, 7, 7, 7, 7, 7, 7, 7, 7, 7, 7, 7, 7, 7, 7, 7, 7, 7, 7, 7, 7, 7, 7, 7, 7]).append ([8, 8, 8, 8, 8, 8, 8, 8, 8, 8, 8, 8, 8, 8, 8, 8, 8, 8, 8, 8, 8, 8, 8, 8, 8, 8, 8, 8, 8, 8, 8, 8, 8, 8, 8, 8, 8, 8, 8, 8, 8, 8, 8, 8, 8, 8, 8, 8, 8, 8, 8, 8, 8, 8, 8, 8, 8, 8, 8, 8, 8, 8, 8, 8].append [8, 8, 8, 8, 8, 8, 8, 8, 8, 8, 8, 8, 8, 8, 8, 8, 8, 8, 8, 8, 8, 8, 8, 8, 8, 8, 8, 8, 8, 8, 8, 8, 8, 8, 8, 8, 8, 8, 8, 8, 8, 8, 8, 8, 8, 8, 8, 8, 8, 8, 8, 8, 8, 8, 8, 8, 8, 8, 8, 8, 8, 8, 8, 8])).toArray)).data.toList.length : Int))) (none) (none))) (cond (decide (256 ≤ IntKind.u64.wrap (0 - IntKind.u64.wrap a0))) (cond (decide (0 ≤ IntKind.u8.wrap ((IntKind.u64.wrap (0 - IntKind.u64.wrap a0)).fdiv (2 ^ min (Int.toNat 8) IntKind.u64.bits))) && decide (IntKind.u8.wrap ((IntKind.u64.wrap (0 - IntKind.u64.wrap a0)).fdiv (2 ^ min (Int.toNat 8) IntKind.u64.bits)) < (↑(ByteArray.mk ((([0, 1, 2, 2, 3, 3, 3, 3, 4, 4, 4, 4, 4, 4, 4, 4, 5, 5, 5, 5, 5, 5, 5, 5, 5, 5, 5, 5, 5, 5, 5, 5, 6, 6, 6, 6, 6, 6, 6, 6, 6, 6, 6, 6, 6, 6, 6, 6, 6, 6, 6, 6, 6, 6, 6, 6, 6, 6, 6, 6, 6, 6, 6, 6].append [7, 7, 7, 7, 7, 7, 7, 7, 7, 7, 7, 7, 7, 7, 7, 7, 7, 7, 7, 7, 7, 7, 7, 7, 7, 7, 7, 7, 7, 7, 7, 7, 7, 7, 7, 7, 7, 7, 7, 7, 7, 7, 7, 7, 7, 7, 7, 7, 7, 7, 7, 7, 7, 7, 7, 7, 7, 7, 7, 7, 7, 7, 7, 7]).append ([8, 8, 8, 8, 8, 8, 8, 8, 8, 8, 8, 8, 8, 8, 8, 8, 8, 8, 8, 8, 8, 8, 8, 8, 8, 8, 8, 8, 8, 8, 8, 8, 8, 8, 8, 8, 8, 8, 8, 8, 8, 8, 8, 8, 8, 8, 8, 8, 8, 8, 8, 8, 8, 8, 8, 8, 8, 8, 8, 8, 8, 8, 8, 8].append [8, 8, 8, 8, 8, 8, 8, 8, 8, 8, 8, 8, 8, 8, 8, 8, 8, 8, 8, 8, 8, 8, 8, 8, 8, 8, 8, 8, 8, 8, 8, 8, 8, 8, 8, 8, 8, 8, 8, 8, 8, 8, 8, 8, 8, 8, 8, 8, 8, 8, 8, 8, 8, 8, 8, 8, 8, 8, 8, 8, 8, 8, 8, 8])).toArray)).data.toList.length : Int))) (none) (none)) (cond (decide (0 ≤ IntKind.u8.wrap (IntKind.u64.wrap (0 - IntKind.u64.wrap a0))) && decide (IntKind.u8.wrap (IntKind.u64.wrap (0 - IntKind.u64.wrap a0)) < (↑(ByteArray.mk ((([0, 1, 2, 2, 3, 3, 3, 3, 4, 4, 4, 4, 4, 4, 4, 4, 5, 5, 5, 5, 5, 5, 5, 5, 5, 5, 5, 5, 5, 5, 5, 5, 6, 6, 6, 6, 6, 6, 6, 6, 6, 6, 6, 6, 6, 6, 6, 6, 6, 6, 6, 6, 6, 6, 6, 6, 6, 6, 6, 6, 6, 6, 6, 6].append [7, 7, 7, 7, 7, 7, 7, 7, 7, 7, 7, 7, 7, 7, 7, 7, 7, 7, 7, 7, 7, 7, 7, 7, 7, 7, 7, 7, 7, 7, 7, 7, 7, 7, 7, 7, 7, 7, 7, 7, 7, 7, 7, 7, 7, 7, 7, 7, 7, 7, 7, 7, 7, 7, 7, 7, 7, 7, 7, 7, 7, 7, 7, 7]).append ([8, 8, 8, 8, 8, 8, 8, 8, 8, 8, 8, 8, 8, 8, 8, 8, 8, 8, 8, 8, 8, 8, 8, 8, 8, 8, 8, 8, 8, 8, 8, 8, 8, 8, 8, 8, 8, 8, 8, 8, 8, 8, 8, 8, 8, 8, 8, 8, 8, 8, 8, 8, 8, 8, 8, 8, 8, 8, 8, 8, 8, 8, 8, 8].append [8, 8, 8, 8, 8, 8, 8, 8, 8, 8, 8, 8, 8, 8, 8, 8, 8, 8, 8, 8, 8, 8, 8, 8, 8, 8, 8, 8, 8, 8, 8, 8, 8, 8, 8, 8, 8, 8, 8, 8, 8, 8, 8, 8, 8, 8, 8, 8, 8, 8, 8, 8, 8, 8, 8, 8, 8, 8, 8, 8, 8, 8, 8, 8])).toArray)).data.toList.length : Int))) (none) (none))))) (cond (decide (4294967296 ≤ IntKind.u64.wrap a0)) (cond (decide (65536 ≤ (IntKind.u64.wrap a0).fdiv (2 ^ min (Int.toNat 32) IntKind.u64.bits))) (cond (decide (256 ≤ ((IntKind.u64.wrap a0).fdiv (2 ^ min (Int.toNat 32) IntKind.u64.bits)).fdiv (2 ^ min (Int.toNat 16) IntKind.u64.bits))) (cond (decide (0 ≤ IntKind.u8.wrap ((((IntKind.u64.wrap a0).fdiv (2 ^ min (Int.toNat 32) IntKind.u64.bits)).fdiv (2 ^ min (Int.toNat 16) IntKind.u64.bits)).fdiv (2 ^ min (Int.toNat 8) IntKind.u64.bits))) && decide (IntKind.u8.wrap ((((IntKind.u64.wrap a0).fdiv (2 ^ min (Int.toNat 32) IntKind.u64.bits)).fdiv (2 ^ min (Int.toNat 16) IntKind.u64.bits)).fdiv (2 ^ min (Int.toNat 8) IntKind.u64.bits)) < (↑(ByteArray.mk ((([0, 1, 2, 2, 3, 3, 3, 3, 4, 4, 4, 4, 4, 4, 4, 4, 5, 5, 5, 5, 5, 5, 5, 5, 5, 5, 5, 5, 5, 5, 5, 5, 6, 6, 6, 6, 6, 6, 6, 6, 6, 6, 6, 6, 6, 6, 6, 6, 6, 6, 6, 6, 6, 6, 6, 6, 6, 6, 6, 6, 6, 6, 6, 6].append [7, 7, 7, 7, 7, 7, 7, 7, 7, 7, 7, 7, 7, 7, 7, 7, 7, 7, 7, 7, 7, 7, 7, 7, 7, 7, 7, 7, 7, 7, 7, 7, 7, 7, 7, 7, 7, 7, 7, 7, 7, 7, 7, 7, 7, 7, 7, 7, 7, 7, 7, 7, 7, 7, 7, 7, 7, 7, 7, 7, 7, 7, 7, 7]).append ([8, 8, 8, 8, 8, 8, 8, 8, 8, 8, 8, 8, 8, 8, 8, 8, 8, 8, 8, 8, 8, 8, 8, 8, 8, 8, 8, 8, 8, 8, 8, 8, 8, 8, 8, 8, 8, 8, 8, 8, 8, 8, 8, 8, 8, 8, 8, 8, 8, 8, 8, 8, 8, 8, 8, 8, 8, 8, 8, 8, 8, 8, 8, 8].append [8, 8, 8, 8, 8, 8, 8, 8, 8, 8, 8, 8, 8, 8, 8, 8, 8, 8, 8, 8, 8, 8, 8, 8, 8, 8, 8, 8, 8, 8, 8, 8, 8, 8, 8, 8, 8, 8, 8, 8, 8, 8, 8, 8, 8, 8, 8, 8, 8, 8, 8, 8, 8, 8, 8, 8, 8, 8, 8, 8, 8, 8, 8, 8])).toArray)).data.toList.length : Int))) (none) (none)) (cond (decide (0 ≤ IntKind.u8.wrap (((IntKind.u64.wrap a0).fdiv (2 ^ min (Int.toNat 32) IntKind.u64.bits)).fdiv (2 ^ min (Int.toNat 16) IntKind.u64.bits))) && decide (IntKind.u8.wrap (((IntKind.u64.wrap a0).fdiv (2 ^ min (Int.toNat 32) IntKind.u64.bits)).fdiv (2 ^ min (Int.toNat 16) IntKind.u64.bits)) < (↑(ByteArray.mk ((([0, 1, 2, 2, 3, 3, 3, 3, 4, 4, 4, 4, 4, 4, 4, 4, 5, 5, 5, 5, 5, 5, 5, 5, 5, 5, 5, 5, 5, 5, 5, 5, 6, 6, 6, 6, 6, 6, 6, 6, 6, 6, 6, 6, 6, 6, 6, 6, 6, 6, 6, 6, 6, 6, 6, 6, 6, 6, 6, 6, 6, 6, 6, 6].append [7, 7, 7, 7, 7, 7, 7, 7, 7, 7, 7, 7, 7, 7, 7, 7, 7, 7, 7, 7, 7, 7, 7, 7, 7, 7, 7, 7, 7, 7, 7, 7, 7, 7, 7, 7, 7, 7, 7, 7, 7, 7, 7, 7, 7, 7, 7, 7, 7, 7, 7, 7, 7, 7, 7, 7, 7, 7, 7, 7, 7, 7, 7, 7]).append ([8, 8, 8, 8, 8, 8, 8, 8, 8, 8, 8, 8, 8, 8, 8, 8, 8, 8, 8, 8, 8, 8, 8, 8, 8, 8, 8, 8, 8, 8, 8, 8, 8, 8, 8, 8, 8, 8, 8, 8, 8, 8, 8, 8, 8, 8, 8, 8, 8, 8, 8, 8, 8, 8, 8, 8, 8, 8, 8, 8, 8, 8, 8, 8].append [8, 8, 8, 8, 8, 8, 8, 8, 8, 8, 8, 8, 8, 8, 8, 8, 8, 8, 8, 8, 8, 8, 8, 8, 8, 8, 8, 8, 8, 8, 8, 8, 8, 8, 8, 8, 8, 8, 8, 8, 8, 8, 8, 8, 8, 8, 8, 8, 8, 8, 8, 8, 8, 8, 8, 8, 8, 8, 8, 8, 8, 8, 8, 8])).toArray)).data.toList.length : Int))) (none) (none))) (cond (decide (256 ≤ (IntKind.u64.wrap a0).fdiv (2 ^ min (Int.toNat 32) IntKind.u64.bits))) (cond (decide (0 ≤ IntKind.u8.wrap (((IntKind.u64.wrap a0).fdiv (2 ^ min (Int.toNat 32) IntKind.u64.bits)).fdiv (2 ^ min (Int.toNat 8) IntKind.u64.bits))) && decide (IntKind.u8.wrap (((IntKind.u64.wrap a0).fdiv (2 ^ min (Int.toNat 32) IntKind.u64.bits)).fdiv (2 ^ min (Int.toNat 8) IntKind.u64.bits)) < (↑(ByteArray.mk ((([0, 1, 2, 2, 3, 3, 3, 3, 4, 4, 4, 4, 4, 4, 4, 4, 5, 5, 5, 5, 5, 5, 5, 5, 5, 5, 5, 5, 5, 5, 5, 5, 6, 6, 6, 6, 6, 6, 6, 6, 6, 6, 6, 6, 6, 6, 6, 6, 6, 6, 6, 6, 6, 6, 6, 6, 6, 6, 6, 6, 6, 6, 6, 6].append [7, 7, 7, 7, 7, 7, 7, 7, 7, 7, 7, 7, 7, 7, 7, 7, 7, 7, 7, 7, 7, 7, 7, 7, 7, 7, 7, 7, 7, 7, 7, 7, 7, 7, 7, 7, 7, 7, 7, 7, 7, 7, 7, 7, 7, 7, 7, 7, 7, 7, 7, 7, 7, 7, 7, 7, 7, 7, 7, 7, 7, 7, 7, 7]).append ([8, 8, 8, 8, 8, 8, 8, 8, 8, 8, 8, 8, 8, 8, 8, 8, 8, 8, 8, 8, 8, 8, 8, 8, 8, 8, 8, 8, 8, 8, 8, 8, 8, 8, 8, 8, 8, 8, 8, 8, 8, 8, 8, 8, 8, 8, 8, 8, 8, 8, 8, 8, 8, 8, 8, 8, 8, 8, 8, 8, 8, 8, 8, 8].append [8, 8, 8, 8, 8, 8, 8, 8, 8, 8, 8, 8, 8, 8, 8, 8, 8, 8, 8, 8, 8, 8, 8, 8, 8, 8, 8, 8, 8, 8, 8, 8, 8, 8, 8, 8, 8, 8, 8, 8, 8, 8, 8, 8, 8, 8, 8, 8, 8, 8, 8, 8, 8, 8, 8, 8, 8, 8, 8, 8, 8, 8, 8, 8])).toArray)).data.toList.length : Int))) (none) (none)) (cond (decide (0 ≤ IntKind.u8.wrap ((IntKind.u64.wrap a0).fdiv (2 ^ min (Int.toNat 32) IntKind.u64.bits))) && decide (IntKind.u8.wrap ((IntKind.u64.wrap a0).fdiv (2 ^ min (Int.toNat 32) IntKind.u64.bits)) < (↑(ByteArray.mk ((([0, 1, 2, 2, 3, 3, 3, 3, 4, 4, 4, 4, 4, 4, 4, 4, 5, 5, 5, 5, 5, 5, 5, 5, 5, 5, 5, 5, 5, 5, 5, 5, 6, 6, 6, 6, 6, 6, 6, 6, 6, 6, 6, 6, 6, 6, 6, 6, 6, 6, 6, 6, 6, 6, 6, 6, 6, 6, 6, 6, 6, 6, 6, 6].append [7, 7, 7, 7, 7, 7, 7, 7, 7, 7, 7, 7, 7, 7, 7, 7, 7, 7, 7, 7, 7, 7, 7, 7, 7, 7, 7, 7, 7, 7, 7, 7, 7, 7, 7, 7, 7, 7, 7, 7, 7, 7, 7, 7, 7, 7, 7, 7, 7, 7, 7, 7, 7, 7, 7, 7, 7, 7, 7, 7, 7, 7, 7, 7]).append ([8, 8, 8, 8, 8, 8, 8, 8, 8, 8, 8, 8, 8, 8, 8, 8, 8, 8, 8, 8, 8, 8, 8, 8, 8, 8, 8, 8, 8, 8, 8, 8, 8, 8, 8, 8, 8, 8, 8, 8, 8, 8, 8, 8, 8, 8, 8, 8, 8, 8, 8, 8, 8, 8, 8, 8, 8, 8, 8, 8, 8, 8, 8, 8].append [8, 8, 8, 8, 8, 8, 8, 8, 8, 8, 8, 8, 8, 8, 8, 8, 8, 8, 8, 8, 8, 8, 8, 8, 8, 8, 8, 8, 8, 8, 8, 8, 8, 8, 8, 8, 8, 8, 8, 8, 8, 8, 8, 8, 8, 8, 8, 8, 8, 8, 8, 8, 8, 8, 8, 8, 8, 8, 8, 8, 8, 8, 8, 8])).toArray)).data.toList.length : Int))) (none) (none)))) (cond (decide (65536 ≤ IntKind.u64.wrap a0)) (cond (decide (256 ≤ (IntKind.u64.wrap a0).fdiv (2 ^ min (Int.toNat 16) IntKind.u64.bits))) (cond (decide (0 ≤ IntKind.u8.wrap (((IntKind.u64.wrap a0).fdiv (2 ^ min (Int.toNat 16) IntKind.u64.bits)).fdiv (2 ^ min (Int.toNat 8) IntKind.u64.bits))) && decide (IntKind.u8.wrap (((IntKind.u64.wrap a0).fdiv (2 ^ min (Int.toNat 16) IntKind.u64.bits)).fdiv (2 ^ min (Int.toNat 8) IntKind.u64.bits)) < (↑(ByteArray.mk ((([0, 1, 2, 2, 3, 3, 3, 3, 4, 4, 4, 4, 4, 4, 4, 4, 5, 5, 5, 5, 5, 5, 5, 5, 5, 5, 5, 5, 5, 5, 5, 5, 6, 6, 6, 6, 6, 6, 6, 6, 6, 6, 6, 6, 6, 6, 6, 6, 6, 6, 6, 6, 6, 6, 6, 6, 6, 6, 6, 6, 6, 6, 6, 6].append [7, 7, 7, 7, 7, 7, 7, 7, 7, 7, 7, 7, 7, 7, 7, 7, 7, 7, 7, 7, 7, 7, 7, 7, 7, 7, 7, 7, 7, 7, 7, 7, 7, 7, 7, 7, 7, 7, 7, 7, 7, 7, 7, 7, 7, 7, 7, 7, 7, 7, 7, 7, 7, 7, 7, 7, 7, 7, 7, 7, 7, 7, 7, 7]).append ([8, 8, 8, 8, 8, 8, 8, 8, 8, 8, 8, 8, 8, 8, 8, 8, 8, 8, 8, 8, 8, 8, 8, 8, 8, 8, 8, 8, 8, 8, 8, 8, 8, 8, 8, 8, 8, 8, 8, 8, 8, 8, 8, 8, 8, 8, 8, 8, 8, 8, 8, 8, 8, 8, 8, 8, 8, 8, 8, 8, 8, 8, 8, 8].append [8, 8, 8, 8, 8, 8, 8, 8, 8, 8, 8, 8, 8, 8, 8, 8, 8, 8, 8, 8, 8, 8, 8, 8, 8, 8, 8, 8, 8, 8, 8, 8, 8, 8, 8, 8, 8, 8, 8, 8, 8, 8, 8, 8, 8, 8, 8, 8, 8, 8, 8, 8, 8, 8, 8, 8, 8, 8, 8, 8, 8, 8, 8, 8])).toArray)).data.toList.length : Int))) (none) (none)) (cond (decide (0 ≤ IntKind.u8.wrap ((IntKind.u64.wrap a0).fdiv (2 ^ min (Int.toNat 16) IntKind.u64.bits))) && decide (IntKind.u8.wrap ((IntKind.u64.wrap a0).fdiv (2 ^ min (Int.toNat 16) IntKind.u64.bits)) < (↑(ByteArray.mk ((([0, 1, 2, 2, 3, 3, 3, 3, 4, 4, 4, 4, 4, 4, 4, 4, 5, 5, 5, 5, 5, 5, 5, 5, 5, 5, 5, 5, 5, 5, 5, 5, 6, 6, 6, 6, 6, 6, 6, 6, 6, 6, 6, 6, 6, 6, 6, 6, 6, 6, 6, 6, 6, 6, 6, 6, 6, 6, 6, 6, 6, 6, 6, 6].append [7, 7, 7, 7, 7, 7, 7, 7, 7, 7, 7, 7, 7, 7, 7, 7, 7, 7, 7, 7, 7, 7, 7, 7, 7, 7, 7, 7, 7, 7, 7, 7, 7, 7, 7, 7, 7, 7, 7, 7, 7, 7, 7, 7, 7, 7, 7, 7, 7, 7, 7, 7, 7, 7, 7, 7, 7, 7, 7, 7, 7, 7, 7, 7]).append ([8, 8, 8, 8, 8, 8, 8, 8, 8, 8, 8, 8, 8, 8, 8, 8, 8, 8, 8, 8, 8, 8, 8, 8, 8, 8, 8, 8, 8, 8, 8, 8, 8, 8, 8, 8, 8, 8, 8, 8, 8, 8, 8, 8, 8, 8, 8, 8, 8, 8, 8, 8, 8, 8, 8, 8, 8, 8, 8, 8, 8, 8, 8, 8].append [8, 8, 8, 8, 8, 8, 8, 8, 8, 8, 8, 8, 8, 8, 8, 8, 8, 8, 8, 8, 8, 8, 8, 8, 8, 8, 8, 8, 8, 8, 8, 8, 8, 8, 8, 8, 8, 8, 8, 8, 8, 8, 8, 8, 8, 8, 8, 8, 8, 8, 8, 8, 8, 8, 8, 8, 8, 8, 8, 8, 8, 8, 8, 8])).toArray)).data.toList.length : Int))) (none) (none))) (cond (decide (256 ≤ IntKind.u64.wrap a0)) (cond (decide (0 ≤ IntKind.u8.wrap ((IntKind.u64.wrap a0).fdiv (2 ^ min (Int.toNat 8) IntKind.u64.bits))) && decide (IntKind.u8.wrap ((IntKind.u64.wrap a0).fdiv (2 ^ min (Int.toNat 8) IntKind.u64.bits)) < (↑(ByteArray.mk ((([0, 1, 2, 2, 3, 3, 3, 3, 4, 4, 4, 4, 4, 4, 4, 4, 5, 5, 5, 5, 5, 5, 5, 5, 5, 5, 5, 5, 5, 5, 5, 5, 6, 6, 6, 6, 6, 6, 6, 6, 6, 6, 6, 6, 6, 6, 6, 6, 6, 6, 6, 6, 6, 6, 6, 6, 6, 6, 6, 6, 6, 6, 6, 6].append [7, 7, 7, 7, 7, 7, 7, 7, 7, 7, 7, 7, 7, 7, 7, 7, 7, 7, 7, 7, 7, 7, 7, 7, 7, 7, 7, 7, 7, 7, 7, 7, 7, 7, 7, 7, 7, 7, 7, 7, 7, 7, 7, 7, 7, 7, 7, 7, 7, 7, 7, 7, 7, 7, 7, 7, 7, 7, 7, 7, 7, 7, 7, 7]).append ([8, 8, 8, 8, 8, 8, 8, 8, 8, 8, 8, 8, 8, 8, 8, 8, 8, 8, 8, 8, 8, 8, 8, 8, 8, 8, 8, 8, 8, 8, 8, 8, 8, 8, 8, 8, 8, 8, 8, 8, 8, 8, 8, 8, 8, 8, 8, 8, 8, 8, 8, 8, 8, 8, 8, 8, 8, 8, 8, 8, 8, 8, 8, 8].append [8, 8, 8, 8, 8, 8, 8, 8, 8, 8, 8, 8, 8, 8, 8, 8, 8, 8, 8, 8, 8, 8, 8, 8, 8, 8, 8, 8, 8, 8, 8, 8, 8, 8, 8, 8, 8, 8, 8, 8, 8, 8, 8, 8, 8, 8, 8, 8, 8, 8, 8, 8, 8, 8, 8, 8, 8, 8, 8, 8, 8, 8, 8, 8])).toArray)).data.toList.length : Int))) (none) (none)) (cond (decide (0 ≤ IntKind.u8.wrap (IntKind.u64.wrap a0)) && decide (IntKind.u8.wrap (IntKind.u64.wrap a0) < (↑(ByteArray.mk ((([0, 1, 2, 2, 3, 3, 3, 3, 4, 4, 4, 4, 4, 4, 4, 4, 5, 5, 5, 5, 5, 5, 5, 5, 5, 5, 5, 5, 5, 5, 5, 5, 6, 6, 6, 6, 6, 6, 6, 6, 6, 6, 6, 6, 6, 6, 6, 6, 6, 6, 6, 6, 6, 6, 6, 6, 6, 6, 6, 6, 6, 6, 6, 6].append [7, 7, 7, 7, 7, 7, 7, 7, 7, 7, 7, 7, 7, 7, 7, 7, 7, 7, 7, 7, 7, 7, 7, 7, 7, 7, 7, 7, 7, 7, 7, 7, 7, 7, 7, 7, 7, 7, 7, 7, 7, 7, 7, 7, 7, 7, 7, 7, 7, 7, 7, 7, 7, 7, 7, 7, 7, 7, 7, 7, 7, 7, 7, 7]).append ([8, 8, 8, 8, 8, 8, 8, 8, 8, 8, 8, 8, 8, 8, 8, 8, 8, 8, 8, 8, 8, 8, 8, 8, 8, 8, 8, 8, 8, 8, 8, 8, 8, 8, 8, 8, 8, 8, 8, 8, 8, 8, 8, 8, 8, 8, 8, 8, 8, 8, 8, 8, 8, 8, 8, 8, 8, 8, 8, 8, 8, 8, 8, 8].append [8, 8, 8, 8, 8, 8, 8, 8, 8, 8, 8, 8, 8, 8, 8, 8, 8, 8, 8, 8, 8, 8, 8, 8, 8, 8, 8, 8, 8, 8, 8, 8, 8, 8, 8, 8, 8, 8, 8, 8, 8, 8, 8, 8, 8, 8, 8, 8, 8, 8, 8, 8, 8, 8, 8, 8, 8, 8, 8, 8, 8, 8, 8, 8])).toArray)).data.toList.length : Int))) (none) (none))))))) (cond (decide (a0 < 0)) (cond (decide (4294967296 ≤ IntKind.u64.wrap (0 - IntKind.u64.wrap a0))) (cond (decide (65536 ≤ (IntKind.u64.wrap (0 - IntKind.u64.wrap a0)).fdiv (2 ^ min (Int.toNat 32) IntKind.u64.bits))) (cond (decide (256 ≤ ((IntKind.u64.wrap (0 - IntKind.u64.wrap a0)).fdiv (2 ^ min (Int.toNat 32) IntKind.u64.bits)).fdiv (2 ^ min (Int.toNat 16) IntKind.u64.bits))) (cond (decide (0 ≤ IntKind.u8.wrap ((((IntKind.u64.wrap (0 - IntKind.u64.wrap a0)).fdiv (2 ^ min (Int.toNat 32) IntKind.u64.bits)).fdiv (2 ^ min (Int.toNat 16) IntKind.u64.bits)).fdiv (2 ^ min (Int.toNat 8) IntKind.u64.bits))) && decide (IntKind.u8.wrap ((((IntKind.u64.wrap (0 - IntKind.u64.wrap a0)).fdiv (2 ^ min (Int.toNat 32) IntKind.u64.bits)).fdiv (2 ^ min (Int.toNat 16) IntKind.u64.bits)).fdiv (2 ^ min (Int.toNat 8) IntKind.u64.bits)) < (↑(ByteArray.mk ((([0, 1, 2, 2, 3, 3, 3, 3, 4, 4, 4, 4, 4, 4, 4, 4, 5, 5, 5, 5, 5, 5, 5, 5, 5, 5, 5, 5, 5, 5, 5, 5, 6, 6, 6, 6, 6, 6, 6, 6, 6, 6, 6, 6, 6, 6, 6, 6, 6, 6, 6, 6, 6, 6, 6, 6, 6, 6, 6, 6, 6, 6, 6, 6].append [7, 7, 7, 7, 7, 7, 7, 7, 7, 7, 7, 7, 7, 7, 7, 7, 7, 7, 7, 7, 7, 7, 7, 7, 7, 7, 7, 7, 7, 7, 7, 7, 7, 7, 7, 7, 7, 7, 7, 7, 7, 7, 7, 7, 7, 7, 7, 7, 7, 7, 7, 7, 7, 7, 7, 7, 7, 7, 7, 7, 7, 7, 7, 7]).append ([8, 8, 8, 8, 8, 8, 8, 8, 8, 8, 8, 8, 8, 8, 8, 8, 8, 8, 8, 8, 8, 8, 8, 8, 8, 8, 8, 8, 8, 8, 8, 8, 8, 8, 8, 8, 8, 8, 8, 8, 8, 8, 8, 8, 8, 8, 8, 8, 8, 8, 8, 8, 8, 8, 8, 8, 8, 8, 8, 8, 8, 8, 8, 8].append [8, 8, 8, 8, 8, 8, 8, 8, 8, 8, 8, 8, 8, 8, 8, 8, 8, 8, 8, 8, 8, 8, 8, 8, 8, 8, 8, 8, 8, 8, 8, 8, 8, 8, 8, 8, 8, 8, 8, 8, 8, 8, 8, 8, 8, 8, 8, 8, 8, 8, 8, 8, 8, 8, 8, 8, 8, 8, 8, 8, 8, 8, 8, 8])).toArray)).data.toList.length : Int))) (none) (none)) (cond (decide (0 ≤ IntKind.u8.wrap (((IntKind.u64.wrap (0 - IntKind.u64.wrap a0)).fdiv (2 ^ min (Int.toNat 32) IntKind.u64.bits)).fdiv (2 ^ min (Int.toNat 16) IntKind.u64.bits))) && decide (IntKind.u8.wrap (((IntKind.u64.wrap (0 - IntKind.u64.wrap a0)).fdiv (2 ^ min (Int.toNat 32) IntKind.u64.bits)).fdiv (2 ^ min (Int.toNat 16) IntKind.u64.bits)) < (↑(ByteArray.mk ((([0, 1, 2, 2, 3, 3, 3, 3, 4, 4, 4, 4, 4, 4, 4, 4, 5, 5, 5, 5, 5, 5, 5, 5, 5, 5, 5, 5, 5, 5, 5, 5, 6, 6, 6, 6, 6, 6, 6, 6, 6, 6, 6, 6, 6, 6, 6, 6, 6, 6, 6, 6, 6, 6, 6, 6, 6, 6, 6, 6, 6, 6, 6, 6].append [7, 7, 7, 7, 7, 7, 7, 7, 7, 7, 7, 7, 7, 7, 7, 7, 7, 7, 7, 7, 7, 7, 7, 7, 7, 7, 7, 7, 7, 7, 7, 7, 7, 7, 7, 7, 7, 7, 7, 7, 7, 7, 7, 7, 7, 7, 7, 7, 7, 7, 7, 7, 7, 7, 7, 7, 7, 7, 7, 7, 7, 7, 7, 7]).append ([8, 8, 8, 8, 8, 8, 8, 8, 8, 8, 8, 8, 8, 8, 8, 8, 8, 8, 8, 8, 8, 8, 8, 8, 8, 8, 8, 8, 8, 8, 8, 8, 8, 8, 8, 8, 8, 8, 8, 8, 8, 8, 8, 8, 8, 8, 8, 8, 8, 8, 8, 8, 8, 8, 8, 8, 8, 8, 8, 8, 8, 8, 8, 8].append [8, 8, 8, 8, 8, 8, 8, 8, 8, 8, 8, 8, 8, 8, 8, 8, 8, 8, 8, 8, 8, 8, 8, 8, 8, 8, 8, 8, 8, 8, 8, 8, 8, 8, 8, 8, 8, 8, 8, 8, 8, 8, 8, 8, 8, 8, 8, 8, 8, 8, 8, 8, 8, 8, 8, 8, 8, 8, 8, 8, 8, 8, 8, 8])).toArray)).data.toList.length : Int))) (none) (none))) (cond (decide (256 ≤ (IntKind.u64.wrap (0 - IntKind.u64.wrap a0)).fdiv (2 ^ min (Int.toNat 32) IntKind.u64.bits))) (cond (decide (0 ≤ IntKind.u8.wrap (((IntKind.u64.wrap (0 - IntKind.u64.wrap a0)).fdiv (2 ^ min (Int.toNat 32) IntKind.u64.bits)).fdiv (2 ^ min (Int.toNat 8) IntKind.u64.bits))) && decide (IntKind.u8.wrap (((IntKind.u64.wrap (0 - IntKind.u64.wrap a0)).fdiv (2 ^ min (Int.toNat 32) IntKind.u64.bits)).fdiv (2 ^ min (Int.toNat 8) IntKind.u64.bits)) < (↑(ByteArray.mk ((([0, 1, 2, 2, 3, 3, 3, 3, 4, 4, 4, 4, 4, 4, 4, 4, 5, 5, 5, 5, 5, 5, 5, 5, 5, 5, 5, 5, 5, 5, 5, 5, 6, 6, 6, 6, 6, 6, 6, 6, 6, 6, 6, 6, 6, 6, 6, 6, 6, 6, 6, 6, 6, 6, 6, 6, 6, 6, 6, 6, 6, 6, 6, 6].append [7, 7, 7, 7, 7, 7, 7, 7, 7, 7, 7, 7, 7, 7, 7, 7, 7, 7, 7, 7, 7, 7, 7, 7, 7, 7, 7, 7, 7, 7, 7, 7, 7, 7, 7, 7, 7, 7, 7, 7, 7, 7, 7, 7, 7, 7, 7, 7, 7, 7, 7, 7, 7, 7, 7, 7, 7, 7, 7, 7, 7, 7, 7, 7]).append ([8, 8, 8, 8, 8, 8, 8, 8, 8, 8, 8, 8, 8, 8, 8, 8, 8, 8, 8, 8, 8, 8, 8, 8, 8, 8, 8, 8, 8, 8, 8, 8, 8, 8, 8, 8, 8, 8, 8, 8, 8, 8, 8, 8, 8, 8, 8, 8, 8, 8, 8, 8, 8, 8, 8, 8, 8, 8, 8, 8, 8, 8, 8, 8].append [8, 8, 8, 8, 8, 8, 8, 8, 8, 8, 8, 8, 8, 8, 8, 8, 8, 8, 8, 8, 8, 8, 8, 8, 8, 8, 8, 8, 8, 8, 8, 8, 8, 8, 8, 8, 8, 8, 8, 8, 8, 8, 8, 8, 8, 8, 8, 8, 8, 8, 8, 8, 8, 8, 8, 8, 8, 8, 8, 8, 8, 8, 8, 8])).toArray)).data.toList.length : Int))) (none) (none)) (cond (decide (0 ≤ IntKind.u8.wrap ((IntKind.u64.wrap (0 - IntKind.u64.wrap a0)).fdiv (2 ^ min (Int.toNat 32) IntKind.u64.bits))) && decide (IntKind.u8.wrap ((IntKind.u64.wrap (0 - IntKind.u64.wrap a0)).fdiv (2 ^ min (Int.toNat 32) IntKind.u64.bits)) < (↑(ByteArray.mk ((([0, 1, 2, 2, 3, 3, 3, 3, 4, 4, 4, 4, 4, 4, 4, 4, 5, 5, 5, 5, 5, 5, 5, 5, 5, 5, 5, 5, 5, 5, 5, 5, 6, 6, 6, 6, 6, 6, 6, 6, 6, 6, 6, 6, 6, 6, 6, 6, 6, 6, 6, 6, 6, 6, 6, 6, 6, 6, 6, 6, 6, 6, 6, 6].append [7, 7, 7, 7, 7, 7, 7, 7, 7, 7, 7, 7, 7, 7, 7, 7, 7, 7, 7, 7, 7, 7, 7, 7, 7, 7, 7, 7, 7, 7, 7, 7, 7, 7, 7, 7, 7, 7, 7, 7, 7, 7, 7, 7, 7, 7, 7, 7, 7, 7, 7, 7, 7, 7, 7, 7, 7, 7, 7, 7, 7, 7, 7, 7]).append ([8, 8, 8, 8, 8, 8, 8, 8, 8, 8, 8, 8, 8, 8, 8, 8, 8, 8, 8, 8, 8, 8, 8, 8, 8, 8, 8, 8, 8, 8, 8, 8, 8, 8, 8, 8, 8, 8, 8, 8, 8, 8, 8, 8, 8, 8, 8, 8, 8, 8, 8, 8, 8, 8, 8, 8, 8, 8, 8, 8, 8, 8, 8, 8].append [8, 8, 8, 8, 8, 8, 8, 8, 8, 8, 8, 8, 8, 8, 8, 8, 8, 8, 8, 8, 8, 8, 8, 8, 8, 8, 8, 8, 8, 8, 8, 8, 8, 8, 8, 8, 8, 8, 8, 8, 8, 8, 8, 8, 8, 8, 8, 8, 8, 8, 8, 8, 8, 8, 8, 8, 8, 8, 8, 8, 8, 8, 8, 8])).toArray)).data.toList.length : Int))) (none) (none)))) (cond (decide (65536 ≤ IntKind.u64.wrap (0 - IntKind.u64.wrap a0))) (cond (decide (256 ≤ (IntKind.u64.wrap (0 - IntKind.u64.wrap a0)).fdiv (2 ^ min (Int.toNat 16) IntKind.u64.bits))) (cond (decide (0 ≤ IntKind.u8.wrap (((IntKind.u64.wrap (0 - IntKind.u64.wrap a0)).fdiv (2 ^ min (Int.toNat 16) IntKind.u64.bits)).fdiv (2 ^ min (Int.toNat 8) IntKind.u64.bits))) && decide (IntKind.u8.wrap (((IntKind.u64.wrap (0 - IntKind.u64.wrap a0)).fdiv (2 ^ min (Int.toNat 16) IntKind.u64.bits)).fdiv (2 ^ min (Int.toNat 8) IntKind.u64.bits)) < (↑(ByteArray.mk ((([0, 1, 2, 2, 3, 3, 3, 3, 4, 4, 4, 4, 4, 4, 4, 4, 5, 5, 5, 5, 5, 5, 5, 5, 5, 5, 5, 5, 5, 5, 5, 5, 6, 6, 6, 6, 6, 6, 6, 6, 6, 6, 6, 6, 6, 6, 6, 6, 6, 6, 6, 6, 6, 6, 6, 6, 6, 6, 6, 6, 6, 6, 6, 6].append [7, 7, 7, 7, 7, 7, 7, 7, 7, 7, 7, 7, 7, 7, 7, 7, 7, 7, 7, 7, 7, 7, 7, 7, 7, 7, 7, 7, 7, 7, 7, 7, 7, 7, 7, 7, 7, 7, 7, 7, 7, 7, 7, 7, 7, 7, 7, 7, 7, 7, 7, 7, 7, 7, 7, 7, 7, 7, 7, 7, 7, 7, 7, 7]).append ([8, 8, 8, 8, 8, 8, 8, 8, 8, 8, 8, 8, 8, 8, 8, 8, 8, 8, 8, 8, 8, 8, 8, 8, 8, 8, 8, 8, 8, 8, 8, 8, 8, 8, 8, 8, 8, 8, 8, 8, 8, 8, 8, 8, 8, 8, 8, 8, 8, 8, 8, 8, 8, 8, 8, 8, 8, 8, 8, 8, 8, 8, 8, 8].append [8, 8, 8, 8, 8, 8, 8, 8, 8, 8, 8, 8, 8, 8, 8, 8, 8, 8, 8, 8, 8, 8, 8, 8, 8, 8, 8, 8, 8, 8, 8, 8, 8, 8, 8, 8, 8, 8, 8, 8, 8, 8, 8, 8, 8, 8, 8, 8, 8, 8, 8, 8, 8, 8, 8, 8, 8, 8, 8, 8, 8, 8, 8, 8])).toArray)).data.toList.length : Int))) (none) (none)) (cond (decide (0 ≤ IntKind.u8.wrap ((IntKind.u64.wrap (0 - IntKind.u64.wrap a0)).fdiv (2 ^ min (Int.toNat 16) IntKind.u64.bits))) && decide (IntKind.u8.wrap ((IntKind.u64.wrap (0 - IntKind.u64.wrap a0)).fdiv (2 ^ min (Int.toNat 16) IntKind.u64.bits)) < (↑(ByteArray.mk ((([0, 1, 2, 2, 3, 3, 3, 3, 4, 4, 4, 4, 4, 4, 4, 4, 5, 5, 5, 5, 5, 5, 5, 5, 5, 5, 5, 5, 5, 5, 5, 5, 6, 6, 6, 6, 6, 6, 6, 6, 6, 6, 6, 6, 6, 6, 6, 6, 6, 6, 6, 6, 6, 6, 6, 6, 6, 6, 6, 6, 6, 6, 6, 6].append [7, 7, 7, 7, 7, 7, 7, 7, 7, 7, 7, 7, 7, 7, 7, 7, 7, 7, 7, 7, 7, 7, 7, 7, 7, 7, 7, 7, 7, 7, 7, 7, 7, 7, 7, 7, 7, 7, 7, 7, 7, 7, 7, 7, 7, 7, 7, 7, 7, 7, 7, 7, 7, 7, 7, 7, 7, 7, 7, 7, 7, 7, 7, 7]).append ([8, 8, 8, 8, 8, 8, 8, 8, 8, 8, 8, 8, 8, 8, 8, 8, 8, 8, 8, 8, 8, 8, 8, 8, 8, 8, 8, 8, 8, 8, 8, 8, 8, 8, 8, 8, 8, 8, 8, 8, 8, 8, 8, 8, 8, 8, 8, 8, 8, 8, 8, 8, 8, 8, 8, 8, 8, 8, 8, 8, 8, 8, 8, 8].append [8, 8, 8, 8, 8, 8, 8, 8, 8, 8, 8, 8, 8, 8, 8, 8, 8, 8, 8, 8, 8, 8, 8, 8, 8, 8, 8, 8, 8, 8, 8, 8, 8, 8, 8, 8, 8, 8, 8, 8, 8, 8, 8, 8, 8, 8, 8, 8, 8, 8, 8, 8, 8, 8, 8, 8, 8, 8, 8, 8, 8, 8, 8, 8])).toArray)).data.toList.length : Int))) (none) (none))) (cond (decide (256 ≤ IntKind.u64.wrap (0 - IntKind.u64.wrap a0))) (cond (decide (0 ≤ IntKind.u8.wrap ((IntKind.u64.wrap (0 - IntKind.u64.wrap a0)).fdiv (2 ^ min (Int.toNat 8) IntKind.u64.bits))) && decide (IntKind.u8.wrap ((IntKind.u64.wrap (0 - IntKind.u64.wrap a0)).fdiv (2 ^ min (Int.toNat 8) IntKind.u64.bits)) < (↑(ByteArray.mk ((([0, 1, 2, 2, 3, 3, 3, 3, 4, 4, 4, 4, 4, 4, 4, 4, 5, 5, 5, 5, 5, 5, 5, 5, 5, 5, 5, 5, 5, 5, 5, 5, 6, 6, 6, 6, 6, 6, 6, 6, 6, 6, 6, 6, 6, 6, 6, 6, 6, 6, 6, 6, 6, 6, 6, 6, 6, 6, 6, 6, 6, 6, 6, 6].append [7, 7, 7, 7, 7, 7, 7, 7, 7, 7, 7, 7, 7, 7, 7, 7, 7, 7, 7, 7, 7, 7, 7, 7, 7, 7, 7, 7, 7, 7, 7, 7, 7, 7, 7, 7, 7, 7, 7, 7, 7, 7, 7, 7, 7, 7, 7, 7, 7, 7, 7, 7, 7, 7, 7, 7, 7, 7, 7, 7, 7, 7, 7, 7]).append ([8, 8, 8, 8, 8, 8, 8, 8, 8, 8, 8, 8, 8, 8, 8, 8, 8, 8, 8, 8, 8, 8, 8, 8, 8, 8, 8, 8, 8, 8, 8, 8, 8, 8, 8, 8, 8, 8, 8, 8, 8, 8, 8, 8, 8, 8, 8, 8, 8, 8, 8, 8, 8, 8, 8, 8, 8, 8, 8, 8, 8, 8, 8, 8].append [8, 8, 8, 8, 8, 8, 8, 8, 8, 8, 8, 8, 8, 8, 8, 8, 8, 8, 8, 8, 8, 8, 8, 8, 8, 8, 8, 8, 8, 8, 8, 8, 8, 8, 8, 8, 8, 8, 8, 8, 8, 8, 8, 8, 8, 8, 8, 8, 8, 8, 8, 8, 8, 8, 8, 8, 8, 8, 8, 8, 8, 8, 8, 8])).toArray)).data.toList.length : Int))) (none) (none)) (cond (decide (0 ≤ IntKind.u8.wrap (IntKind.u64.wrap (0 - IntKind.u64.wrap a0))) && decide (IntKind.u8.wrap (IntKind.u64.wrap (0 - IntKind.u64.wrap a0)) < (↑(ByteArray.mk ((([0, 1, 2, 2, 3, 3, 3, 3, 4, 4, 4, 4, 4, 4, 4, 4, 5, 5, 5, 5, 5, 5, 5, 5, 5, 5, 5, 5, 5, 5, 5, 5, 6, 6, 6, 6, 6, 6, 6, 6, 6, 6, 6, 6, 6, 6, 6, 6, 6, 6, 6, 6, 6, 6, 6, 6, 6, 6, 6, 6, 6, 6, 6, 6].append [7, 7, 7, 7, 7, 7, 7, 7, 7, 7, 7, 7, 7, 7, 7, 7, 7, 7, 7, 7, 7, 7, 7, 7, 7, 7, 7, 7, 7, 7, 7, 7, 7, 7, 7, 7, 7, 7, 7, 7, 7, 7, 7, 7, 7, 7, 7, 7, 7, 7, 7, 7, 7, 7, 7, 7, 7, 7, 7, 7, 7, 7, 7, 7]).append ([8, 8, 8, 8, 8, 8, 8, 8, 8, 8, 8, 8, 8, 8, 8, 8, 8, 8, 8, 8, 8, 8, 8, 8, 8, 8, 8, 8, 8, 8, 8, 8, 8, 8, 8, 8, 8, 8, 8, 8, 8, 8, 8, 8, 8, 8, 8, 8, 8, 8, 8, 8, 8, 8, 8, 8, 8, 8, 8, 8, 8, 8, 8, 8].append [8, 8, 8, 8, 8, 8, 8, 8, 8, 8, 8, 8, 8, 8, 8, 8, 8, 8, 8, 8, 8, 8, 8, 8, 8, 8, 8, 8, 8, 8, 8, 8, 8, 8, 8, 8, 8, 8, 8, 8, 8, 8, 8, 8, 8, 8, 8, 8, 8, 8, 8, 8, 8, 8, 8, 8, 8, 8, 8, 8, 8, 8, 8, 8])).toArray)).data.toList.length : Int))) (none) (none))))) (cond (decide (4294967296 ≤ IntKind.u64.wrap a0)) (cond (decide (65536 ≤ (IntKind.u64.wrap a0).fdiv (2 ^ min (Int.toNat 32) IntKind.u64.bits))) (cond (decide (256 ≤ ((IntKind.u64.wrap a0).fdiv (2 ^ min (Int.toNat 32) IntKind.u64.bits)).fdiv (2 ^ min (Int.toNat 16) IntKind.u64.bits))) (cond (decide (0 ≤ IntKind.u8.wrap ((((IntKind.u64.wrap a0).fdiv (2 ^ min (Int.toNat 32) IntKind.u64.bits)).fdiv (2 ^ min (Int.toNat 16) IntKind.u64.bits)).fdiv (2 ^ min (Int.toNat 8) IntKind.u64.bits))) && decide (IntKind.u8.wrap ((((IntKind.u64.wrap a0).fdiv (2 ^ min (Int.toNat 32) IntKind.u64.bits)).fdiv (2 ^ min (Int.toNat 16) IntKind.u64.bits)).fdiv (2 ^ min (Int.toNat 8) IntKind.u64.bits)) < (↑(ByteArray.mk ((([0, 1, 2, 2, 3, 3, 3, 3, 4, 4, 4, 4, 4, 4, 4, 4, 5, 5, 5, 5, 5, 5, 5, 5, 5, 5, 5, 5, 5, 5, 5, 5, 6, 6, 6, 6, 6, 6, 6, 6, 6, 6, 6, 6, 6, 6, 6, 6, 6, 6, 6, 6, 6, 6, 6, 6, 6, 6, 6, 6, 6, 6, 6, 6].append [7, 7, 7, 7, 7, 7, 7, 7, 7, 7, 7, 7, 7, 7, 7, 7, 7, 7, 7, 7, 7, 7, 7, 7, 7, 7, 7, 7, 7, 7, 7, 7, 7, 7, 7, 7, 7, 7, 7, 7, 7, 7, 7, 7, 7, 7, 7, 7, 7, 7, 7, 7, 7, 7, 7, 7, 7, 7, 7, 7, 7, 7, 7, 7]).append ([8, 8, 8, 8, 8, 8, 8, 8, 8, 8, 8, 8, 8, 8, 8, 8, 8, 8, 8, 8, 8, 8, 8, 8, 8, 8, 8, 8, 8, 8, 8, 8, 8, 8, 8, 8, 8, 8, 8, 8, 8, 8, 8, 8, 8, 8, 8, 8, 8, 8, 8, 8, 8, 8, 8, 8, 8, 8, 8, 8, 8, 8, 8, 8].append [8, 8, 8, 8, 8, 8, 8, 8, 8, 8, 8, 8, 8, 8, 8, 8, 8, 8, 8, 8, 8, 8, 8, 8, 8, 8, 8, 8, 8, 8, 8, 8, 8, 8, 8, 8, 8, 8, 8, 8, 8, 8, 8, 8, 8, 8, 8, 8, 8, 8, 8, 8, 8, 8, 8, 8, 8, 8, 8, 8, 8, 8, 8, 8])).toArray)).data.toList.length : Int))) (none) (none)) (cond (decide (0 ≤ IntKind.u8.wrap (((IntKind.u64.wrap a0).fdiv (2 ^ min (Int.toNat 32) IntKind.u64.bits)).fdiv (2 ^ min (Int.toNat 16) IntKind.u64.bits))) && decide (IntKind.u8.wrap (((IntKind.u64.wrap a0).fdiv (2 ^ min (Int.toNat 32) IntKind.u64.bits)).fdiv (2 ^ min (Int.toNat 16) IntKind.u64.bits)) < (↑(ByteArray.mk ((([0, 1, 2, 2, 3, 3, 3, 3, 4, 4, 4, 4, 4, 4, 4, 4, 5, 5, 5, 5, 5, 5, 5, 5, 5, 5, 5, 5, 5, 5, 5, 5, 6, 6, 6, 6, 6, 6, 6, 6, 6, 6, 6, 6, 6, 6, 6, 6, 6, 6, 6, 6, 6, 6, 6, 6, 6, 6, 6, 6, 6, 6, 6, 6].append [7, 7, 7, 7, 7, 7, 7, 7, 7, 7, 7, 7, 7, 7, 7, 7, 7, 7, 7, 7, 7, 7, 7, 7, 7, 7, 7, 7, 7, 7, 7, 7, 7, 7, 7, 7, 7, 7, 7, 7, 7, 7, 7, 7, 7, 7, 7, 7, 7, 7, 7, 7, 7, 7, 7, 7, 7, 7, 7, 7, 7, 7, 7, 7]).append ([8, 8, 8, 8, 8, 8, 8, 8, 8, 8, 8, 8, 8, 8, 8, 8, 8, 8, 8, 8, 8, 8, 8, 8, 8, 8, 8, 8, 8, 8, 8, 8, 8, 8, 8, 8, 8, 8, 8, 8, 8, 8, 8, 8, 8, 8, 8, 8, 8, 8, 8, 8, 8, 8, 8, 8, 8, 8, 8, 8, 8, 8, 8, 8].append [8, 8, 8, 8, 8, 8, 8, 8, 8, 8, 8, 8, 8, 8, 8, 8, 8, 8, 8, 8, 8, 8, 8, 8, 8, 8, 8, 8, 8, 8, 8, 8, 8, 8, 8, 8, 8, 8, 8, 8, 8, 8, 8, 8, 8, 8, 8, 8, 8, 8, 8, 8, 8, 8, 8, 8, 8, 8, 8, 8, 8, 8, 8, 8])).toArray)).data.toList.length : Int))) (none) (none))) (cond (decide (256 ≤ (IntKind.u64.wrap a0).fdiv (2 ^ min (Int.toNat 32) IntKind.u64.bits))) (cond (decide (0 ≤ IntKind.u8.wrap (((IntKind.u64.wrap a0).fdiv (2 ^ min (Int.toNat 32) IntKind.u64.bits)).fdiv (2 ^ min (Int.toNat 8) IntKind.u64.bits))) && decide (IntKind.u8.wrap (((IntKind.u64.wrap a0).fdiv (2 ^ min (Int.toNat 32) IntKind.u64.bits)).fdiv (2 ^ min (Int.toNat 8) IntKind.u64.bits)) < (↑(ByteArray.mk ((([0, 1, 2, 2, 3, 3, 3, 3, 4, 4, 4, 4, 4, 4, 4, 4, 5, 5, 5, 5, 5, 5, 5, 5, 5, 5, 5, 5, 5, 5, 5, 5, 6, 6, 6, 6, 6, 6, 6, 6, 6, 6, 6, 6, 6, 6, 6, 6, 6, 6, 6, 6, 6, 6, 6, 6, 6, 6, 6, 6, 6, 6, 6, 6].append [7, 7, 7, 7, 7, 7, 7, 7, 7, 7, 7, 7, 7, 7, 7, 7, 7, 7, 7, 7, 7, 7, 7, 7, 7, 7, 7, 7, 7, 7, 7, 7, 7, 7, 7, 7, 7, 7, 7, 7, 7, 7, 7, 7, 7, 7, 7, 7, 7, 7, 7, 7, 7, 7, 7, 7, 7, 7, 7, 7, 7, 7, 7, 7]).append ([8, 8, 8, 8, 8, 8, 8, 8, 8, 8, 8, 8, 8, 8, 8, 8, 8, 8, 8, 8, 8, 8, 8, 8, 8, 8, 8, 8, 8, 8, 8, 8, 8, 8, 8, 8, 8, 8, 8, 8, 8, 8, 8, 8, 8, 8, 8, 8, 8, 8, 8, 8, 8, 8, 8, 8, 8, 8, 8, 8, 8, 8, 8, 8].append [8, 8, 8, 8, 8, 8, 8, 8, 8, 8, 8, 8, 8, 8, 8, 8, 8, 8, 8, 8, 8, 8, 8, 8, 8, 8, 8, 8, 8, 8, 8, 8, 8, 8, 8, 8, 8, 8, 8, 8, 8, 8, 8, 8, 8, 8, 8, 8, 8, 8, 8, 8, 8, 8, 8, 8, 8, 8, 8, 8, 8, 8, 8, 8])).toArray)).data.toList.length : Int))) (none) (none)) (cond (decide (0 ≤ IntKind.u8.wrap ((IntKind.u64.wrap a0).fdiv (2 ^ min (Int.toNat 32) IntKind.u64.bits))) && decide (IntKind.u8.wrap ((IntKind.u64.wrap a0).fdiv (2 ^ min (Int.toNat 32) IntKind.u64.bits)) < (↑(ByteArray.mk ((([0, 1, 2, 2, 3, 3, 3, 3, 4, 4, 4, 4, 4, 4, 4, 4, 5, 5, 5, 5, 5, 5, 5, 5, 5, 5, 5, 5, 5, 5, 5, 5, 6, 6, 6, 6, 6, 6, 6, 6, 6, 6, 6, 6, 6, 6, 6, 6, 6, 6, 6, 6, 6, 6, 6, 6, 6, 6, 6, 6, 6, 6, 6, 6].append [7, 7, 7, 7, 7, 7, 7, 7, 7, 7, 7, 7, 7, 7, 7, 7, 7, 7, 7, 7, 7, 7, 7, 7, 7, 7, 7, 7, 7, 7, 7, 7, 7, 7, 7, 7, 7, 7, 7, 7, 7, 7, 7, 7, 7, 7, 7, 7, 7, 7, 7, 7, 7, 7, 7, 7, 7, 7, 7, 7, 7, 7, 7, 7]).append ([8, 8, 8, 8, 8, 8, 8, 8, 8, 8, 8, 8, 8, 8, 8, 8, 8, 8, 8, 8, 8, 8, 8, 8, 8, 8, 8, 8, 8, 8, 8, 8, 8, 8, 8, 8, 8, 8, 8, 8, 8, 8, 8, 8, 8, 8, 8, 8, 8, 8, 8, 8, 8, 8, 8, 8, 8, 8, 8, 8, 8, 8, 8, 8].append [8, 8, 8, 8, 8, 8, 8, 8, 8, 8, 8, 8, 8, 8, 8, 8, 8, 8, 8, 8, 8, 8, 8, 8, 8, 8, 8, 8, 8, 8, 8, 8, 8, 8, 8, 8, 8, 8, 8, 8, 8, 8, 8, 8, 8, 8, 8, 8, 8, 8, 8, 8, 8, 8, 8, 8, 8, 8, 8, 8, 8, 8, 8, 8])).toArray)).data.toList.length : Int))) (none) (none)))) (cond (decide (65536 ≤ IntKind.u64.wrap a0)) (cond (decide (256 ≤ (IntKind.u64.wrap a0).fdiv (2 ^ min (Int.toNat 16) IntKind.u64.bits))) (cond (decide (0 ≤ IntKind.u8.wrap (((IntKind.u64.wrap a0).fdiv (2 ^ min (Int.toNat 16) IntKind.u64.bits)).fdiv (2 ^ min (Int.toNat 8) IntKind.u64.bits))) && decide (IntKind.u8.wrap (((IntKind.u64.wrap a0).fdiv (2 ^ min (Int.toNat 16) IntKind.u64.bits)).fdiv (2 ^ min (Int.toNat 8) IntKind.u64.bits)) < (↑(ByteArray.mk ((([0, 1, 2, 2, 3, 3, 3, 3, 4, 4, 4, 4, 4, 4, 4, 4, 5, 5, 5, 5, 5, 5, 5, 5, 5, 5, 5, 5, 5, 5, 5, 5, 6, 6, 6, 6, 6, 6, 6, 6, 6, 6, 6, 6, 6, 6, 6, 6, 6, 6, 6, 6, 6, 6, 6, 6, 6, 6, 6, 6, 6, 6, 6, 6].append [7, 7, 7, 7, 7, 7, 7, 7, 7, 7, 7, 7, 7, 7, 7, 7, 7, 7, 7, 7, 7, 7, 7, 7, 7, 7, 7, 7, 7, 7, 7, 7, 7, 7, 7, 7, 7, 7, 7, 7, 7, 7, 7, 7, 7, 7, 7, 7, 7, 7, 7, 7, 7, 7, 7, 7, 7, 7, 7, 7, 7, 7, 7, 7]).append ([8, 8, 8, 8, 8, 8, 8, 8, 8, 8, 8, 8, 8, 8, 8, 8, 8, 8, 8, 8, 8, 8, 8, 8, 8, 8, 8, 8, 8, 8, 8, 8, 8, 8, 8, 8, 8, 8, 8, 8, 8, 8, 8, 8, 8, 8, 8, 8, 8, 8, 8, 8, 8, 8, 8, 8, 8, 8, 8, 8, 8, 8, 8, 8].append [8, 8, 8, 8, 8, 8, 8, 8, 8, 8, 8, 8, 8, 8, 8, 8, 8, 8, 8, 8, 8, 8, 8, 8, 8, 8, 8, 8, 8, 8, 8, 8, 8, 8, 8, 8, 8, 8, 8, 8, 8, 8, 8, 8, 8, 8, 8, 8, 8, 8, 8, 8, 8, 8, 8, 8, 8, 8, 8, 8, 8, 8, 8, 8])).toArray)).data.toList.length : Int))) (none) (none)) (cond (decide (0 ≤ IntKind.u8.wrap ((IntKind.u64.wrap a0).fdiv (2 ^ min (Int.toNat 16) IntKind.u64.bits))) && decide (IntKind.u8.wrap ((IntKind.u64.wrap a0).fdiv (2 ^ min (Int.toNat 16) IntKind.u64.bits)) < (↑(ByteArray.mk ((([0, 1, 2, 2, 3, 3, 3, 3, 4, 4, 4, 4, 4, 4, 4, 4, 5, 5, 5, 5, 5, 5, 5, 5, 5, 5, 5, 5, 5, 5, 5, 5, 6, 6, 6, 6, 6, 6, 6, 6, 6, 6, 6, 6, 6, 6, 6, 6, 6, 6, 6, 6, 6, 6, 6, 6, 6, 6, 6, 6, 6, 6, 6, 6].append [7, 7, 7, 7, 7, 7, 7, 7, 7, 7, 7, 7, 7, 7, 7, 7, 7, 7, 7, 7, 7, 7, 7, 7, 7, 7, 7, 7, 7, 7, 7, 7, 7, 7, 7, 7, 7, 7, 7, 7, 7, 7, 7, 7, 7, 7, 7, 7, 7, 7, 7, 7, 7, 7, 7, 7, 7, 7, 7, 7, 7, 7, 7, 7]).append ([8, 8, 8, 8, 8, 8, 8, 8, 8, 8, 8, 8, 8, 8, 8, 8, 8, 8, 8, 8, 8, 8, 8, 8, 8, 8, 8, 8, 8, 8, 8, 8, 8, 8, 8, 8, 8, 8, 8, 8, 8, 8, 8, 8, 8, 8, 8, 8, 8, 8, 8, 8, 8, 8, 8, 8, 8, 8, 8, 8, 8, 8, 8, 8].append [8, 8, 8, 8, 8, 8, 8, 8, 8, 8, 8, 8, 8, 8, 8, 8, 8, 8, 8, 8, 8, 8, 8, 8, 8, 8, 8, 8, 8, 8, 8, 8, 8, 8, 8, 8, 8, 8, 8, 8, 8, 8, 8, 8, 8, 8, 8, 8, 8, 8, 8, 8, 8, 8, 8, 8, 8, 8, 8, 8, 8, 8, 8, 8])).toArray)).data.toList.length : Int))) (none) (none))) (cond (decide (256 ≤ IntKind.u64.wrap a0)) (cond (decide (0 ≤ IntKind.u8.wrap ((IntKind.u64.wrap a0).fdiv (2 ^ min (Int.toNat 8) IntKind.u64.bits))) && decide (IntKind.u8.wrap ((IntKind.u64.wrap a0).fdiv (2 ^ min (Int.toNat 8) IntKind.u64.bits)) < (↑(ByteArray.mk ((([0, 1, 2, 2, 3, 3, 3, 3, 4, 4, 4, 4, 4, 4, 4, 4, 5, 5, 5, 5, 5, 5, 5, 5, 5, 5, 5, 5, 5, 5, 5, 5, 6, 6, 6, 6, 6, 6, 6, 6, 6, 6, 6, 6, 6, 6, 6, 6, 6, 6, 6, 6, 6, 6, 6, 6, 6, 6, 6, 6, 6, 6, 6, 6].append [7, 7, 7, 7, 7, 7, 7, 7, 7, 7, 7, 7, 7, 7, 7, 7, 7, 7, 7, 7, 7, 7, 7, 7, 7, 7, 7, 7, 7, 7, 7, 7, 7, 7, 7, 7, 7, 7, 7, 7, 7, 7, 7, 7, 7, 7, 7, 7, 7, 7, 7, 7, 7, 7, 7, 7, 7, 7, 7, 7, 7, 7, 7, 7]).append ([8, 8, 8, 8, 8, 8, 8, 8, 8, 8, 8, 8, 8, 8, 8, 8, 8, 8, 8, 8, 8, 8, 8, 8, 8, 8, 8, 8, 8, 8, 8, 8, 8, 8, 8, 8, 8, 8, 8, 8, 8, 8, 8, 8, 8, 8, 8, 8, 8, 8, 8, 8, 8, 8, 8, 8, 8, 8, 8, 8, 8, 8, 8, 8].append [8, 8, 8, 8, 8, 8, 8, 8, 8, 8, 8, 8, 8, 8, 8, 8, 8, 8, 8, 8, 8, 8, 8, 8, 8, 8, 8, 8, 8, 8, 8, 8, 8, 8, 8, 8, 8, 8, 8, 8, 8, 8, 8, 8, 8, 8, 8, 8, 8, 8, 8, 8, 8, 8, 8, 8, 8, 8, 8, 8, 8, 8, 8, 8])).toArray)).data.toList.length : Int))) (none) (none)) (cond (decide (0 ≤ IntKind.u8.wrap (IntKind.u64.wrap a0)) && decide (IntKind.u8.wrap (IntKind.u64.wrap a0) < (↑(ByteArray.mk ((([0, 1, 2, 2, 3, 3, 3, 3, 4, 4, 4, 4, 4, 4, 4, 4, 5, 5, 5, 5, 5, 5, 5, 5, 5, 5, 5, 5, 5, 5, 5, 5, 6, 6, 6, 6, 6, 6, 6, 6, 6, 6, 6, 6, 6, 6, 6, 6, 6, 6, 6, 6, 6, 6, 6, 6, 6, 6, 6, 6, 6, 6, 6, 6].append [7, 7, 7, 7, 7, 7, 7, 7, 7, 7, 7, 7, 7, 7, 7, 7, 7, 7, 7, 7, 7, 7, 7, 7, 7, 7, 7, 7, 7, 7, 7, 7, 7, 7, 7, 7, 7, 7, 7, 7, 7, 7, 7, 7, 7, 7, 7, 7, 7, 7, 7, 7, 7, 7, 7, 7, 7, 7, 7, 7, 7, 7, 7, 7]).append ([8, 8, 8, 8, 8, 8, 8, 8, 8, 8, 8, 8, 8, 8, 8, 8, 8, 8, 8, 8, 8, 8, 8, 8, 8, 8, 8, 8, 8, 8, 8, 8, 8, 8, 8, 8, 8, 8, 8, 8, 8, 8, 8, 8, 8, 8, 8, 8, 8, 8, 8, 8, 8, 8, 8, 8, 8, 8, 8, 8, 8, 8, 8, 8].append [8, 8, 8, 8, 8, 8, 8, 8, 8, 8, 8, 8, 8, 8, 8, 8, 8, 8, 8, 8, 8, 8, 8, 8, 8, 8, 8, 8, 8, 8, 8, 8, 8, 8, 8, 8, 8, 8, 8, 8, 8, 8, 8, 8, 8, 8, 8, 8, 8, 8, 8, 8, 8, 8, 8, 8, 8, 8, 8, 8, 8, 8, 8, 8])).toArray)).data.toList.length : Int))) (none) (none))))))
theorem eq (N : Nat) (a0 : Int) : evF (C N) 50 Tryd.f39 an39 (smL (ents39 N) 0 50) [((.str : K), false)] [⟨.int .i64, a0⟩] = g N a0 (fun r0 => some [.dat (K.str) r0]) := by kernel_rfl
theorem ctxOk (N : Nat) : CtxOk P (C N) := ctxOk_of tysOk mixedOk trivial ⟨⟨⟨by rfl, by kernel_rfl⟩, fun α lo d c hc => smL_ok (ents73_ok N) lo d hc⟩, ⟨⟨by rfl, by kernel_rfl⟩, fun α lo d c hc => smL_ok (ents91_ok N) lo d hc⟩, ⟨⟨by rfl, by kernel_rfl⟩, fun α lo d c hc => smL_ok (ents96_ok N) lo d hc⟩, ⟨⟨by rfl, by kernel_rfl⟩, fun α lo d c hc => smL_ok (ents97_ok N) lo d hc⟩, ⟨⟨by rfl, by kernel_rfl⟩, fun α lo d c hc => smL_ok (ents98_ok N) lo d hc⟩, ⟨⟨by rfl, by kernel_rfl⟩, fun α lo d c hc => smL_ok (ents99_ok N) lo d hc⟩, ⟨⟨by rfl, by kernel_rfl⟩, fun α lo d c hc => smL_ok (ents100_ok N) lo d hc⟩, ⟨⟨by rfl, by kernel_rfl⟩, fun α lo d c hc => smL_ok (ents101_ok N) lo d hc⟩, ⟨⟨by rfl, by kernel_rfl⟩, fun α lo d c hc => smL_ok (ents102_ok N) lo d hc⟩, ⟨⟨by rfl, by kernel_rfl⟩, fun α lo d c hc => smL_ok (ents103_ok N) lo d hc⟩, ⟨⟨by rfl, by kernel_rfl⟩, fun α lo d c hc => smL_ok (ents104_ok N) lo d hc⟩, ⟨⟨by rfl, by kernel_rfl⟩, fun α lo d c hc => smL_ok (ents105_ok N) lo d hc⟩, ⟨⟨by rfl, by kernel_rfl⟩, fun α lo d c hc => smL_ok (ents106_ok N) lo d hc⟩, trivial⟩
theorem calls (N : Nat) (a0 : Int) {rs : List Rs} (h : g N a0 (fun r0 => some [.dat (K.str) r0]) = some rs) : CallsTo P 39 [⟨.int .i64, a0⟩] rs := evF_calls' (ctxOk N) (by rfl) (ents39_ok N) ((eq N a0).trans h)
end strconv_Itoa
theorem strconv_Itoa.at {α : Type} (N : Nat) (kr : BA → Option α) : ∀ n : Nat, n < 100 → strconv_Itoa.g N ((n : Nat) : Int) kr = kr (digB ((n : Nat) : Int))
 | 0, _ => by kernel_rfl
 | 1, _ => by kernel_rfl
 | 2, _ => by kernel_rfl
 | 3, _ => by kernel_rfl
 | 4, _ => by kernel_rfl
 | 5, _ => by kernel_rfl
 | 6, _ => by kernel_rfl
 | 7, _ => by kernel_rfl
 | 8, _ => by kernel_rfl
 | 9, _ => by kernel_rfl
 | 10, _ => by kernel_rfl
 | 11, _ => by kernel_rfl
 | 12, _ => by kernel_rfl
 | 13, _ => by kernel_rfl
 | 14, _ => by kernel_rfl
 | 15, _ => by kernel_rfl
 | 16, _ => by kernel_rfl
 | 17, _ => by kernel_rfl
 | 18, _ => by kernel_rfl
 | 19, _ => by kernel_rfl
 | 20, _ => by kernel_rfl
 | 21, _ => by kernel_rfl
 | 22, _ => by kernel_rfl
 | 23, _ => by kernel_rfl
 | 24, _ => by kernel_rfl
 | 25, _ => by kernel_rfl
 | 26, _ => by kernel_rfl
 | 27, _ => by kernel_rfl
 | 28, _ => by kernel_rfl
 | 29, _ => by kernel_rfl
 | 30, _ => by kernel_rfl
 | 31, _ => by kernel_rfl
 | 32, _ => by kernel_rfl
 | 33, _ => by kernel_rfl
 | 34, _ => by kernel_rfl
 | 35, _ => by kernel_rfl
 | 36, _ => by kernel_rfl
 | 37, _ => by kernel_rfl
 | 38, _ => by kernel_rfl
 | 39, _ => by kernel_rfl
 | 40, _ => by kernel_rfl
 | 41, _ => by kernel_rfl
 | 42, _ => by kernel_rfl
 | 43, _ => by kernel_rfl
 | 44, _ => by kernel_rfl
 | 45, _ => by kernel_rfl
 | 46, _ => by kernel_rfl
 | 47, _ => by kernel_rfl
 | 48, _ => by kernel_rfl
 | 49, _ => by kernel_rfl
 | 50, _ => by kernel_rfl
 | 51, _ => by kernel_rfl
 | 52, _ => by kernel_rfl
 | 53, _ => by kernel_rfl
 | 54, _ => by kernel_rfl
 | 55, _ => by kernel_rfl
 | 56, _ => by kernel_rfl
 | 57, _ => by kernel_rfl
 | 58, _ => by kernel_rfl
 | 59, _ => by kernel_rfl
 | 60, _ => by kernel_rfl
 | 61, _ => by kernel_rfl
 | 62, _ => by kernel_rfl
 | 63, _ => by kernel_rfl
 | 64, _ => by kernel_rfl
 | 65, _ => by kernel_rfl
 | 66, _ => by kernel_rfl
 | 67, _ => by kernel_rfl
 | 68, _ => by kernel_rfl
 | 69, _ => by kernel_rfl
 | 70, _ => by kernel_rfl
 | 71, _ => by kernel_rfl
 | 72, _ => by kernel_rfl
 | 73, _ => by kernel_rfl
 | 74, _ => by kernel_rfl
 | 75, _ => by kernel_rfl
 | 76, _ => by kernel_rfl
 | 77, _ => by kernel_rfl
 | 78, _ => by kernel_rfl
 | 79, _ => by kernel_rfl
 | 80, _ => by kernel_rfl
 | 81, _ => by kernel_rfl
 | 82, _ => by kernel_rfl
 | 83, _ => by kernel_rfl
 | 84, _ => by kernel_rfl
 | 85, _ => by kernel_rfl
 | 86, _ => by kernel_rfl
 | 87, _ => by kernel_rfl
 | 88, _ => by kernel_rfl
 | 89, _ => by kernel_rfl
 | 90, _ => by kernel_rfl
 | 91, _ => by kernel_rfl
 | 92, _ => by kernel_rfl
 | 93, _ => by kernel_rfl
 | 94, _ => by kernel_rfl
 | 95, _ => by kernel_rfl
 | 96, _ => by kernel_rfl
 | 97, _ => by kernel_rfl
 | 98, _ => by kernel_rfl
 | 99, _ => by kernel_rfl
 | n + 100, h => absurd h (by omega)
theorem strconv_Itoa.law {α : Type} {N : Nat} (hN : 18446744073709551616 ≤ N) (a0 : Int) (w0 : K.wf (.int .i64) a0) (hp : strconv_Itoa.pre a0 = true) (kr : (BA → Option α)) : strconv_Itoa.g N a0 kr = kr (strconv_Itoa.spec a0) := by
 unfold strconv_Itoa.pre at hp
 simp only [Bool.and_eq_true, decide_eq_true_eq] at hp
 obtain ⟨n, rfl⟩ : ∃ n : Nat, a0 = (n : Int) := ⟨a0.toNat, by omega⟩
 exact strconv_Itoa.at N kr n (by omega)
theorem strconv_Itoa.ok : FentOk P 39 strconv_Itoa.fent := fentOk_of (by kernel_rfl) fun ds hk => by
 obtain ⟨a0, l0, rfl, h0⟩ := ds_cons hk
 obtain rfl := ds0 h0
 exact ⟨strconv_Itoa.pre a0, [.dat (.str) (strconv_Itoa.spec a0)], fun h hw => strconv_Itoa.calls 18446744073709551616 a0 (strconv_Itoa.law (Nat.le_refl _) a0 hw.1 h _), fun α k => rfl⟩
end Go.VI
namespace Go.VI
open Go Go.Proofs
namespace net_Name
def an76 : Ann := [(4, [14], [2])]
def L0.sh : Sh := { sl := [(14, SV.a (SA.fx (Atom.box 0 0)))], os := [(0, SO.iter)], nx := 1 }
def L0.x0 : Sh := { sl := [(2, SV.a (SA.d K.bool))], os := [], nx := 0 }
def L0.x1 : Sh := { sl := [(2, SV.j)], os := [], nx := 0 }
def L0.st {α : Type} (N : Nat) (x0 : BA) (φ : (Nat → Option α)) (x1 : Nat) (k0 : (Bool → Option α)) (k1 : Option α) : Option α :=
 cond (decide (x1 < x0.size)) (cond (decide (97 ≤ (↑(Utf8.decode x0 x1).fst : Int))) (cond (decide ((↑(Utf8.decode x0 x1).fst : Int) ≤ 122)) (φ (x1 + (Utf8.decode x0 x1).snd)) (cond ((↑(Utf8.decode x0 x1).fst : Int) == 95) (φ (x1 + (Utf8.decode x0 x1).snd)) (cond (decide (0 < (↑x1 : Int))) (cond (decide (48 ≤ (↑(Utf8.decode x0 x1).fst : Int))) (cond (decide ((↑(Utf8.decode x0 x1).fst : Int) ≤ 57)) (φ (x1 + (Utf8.decode x0 x1).snd)) (cond ((↑(Utf8.decode x0 x1).fst : Int) == 46) (φ (x1 + (Utf8.decode x0 x1).snd)) (k0 (false)))) (cond ((↑(Utf8.decode x0 x1).fst : Int) == 46) (φ (x1 + (Utf8.decode x0 x1).snd)) (k0 (false)))) (k0 (false))))) (cond ((↑(Utf8.decode x0 x1).fst : Int) == 95) (φ (x1 + (Utf8.decode x0 x1).snd)) (cond (decide (0 < (↑x1 : Int))) (cond (decide (48 ≤ (↑(Utf8.decode x0 x1).fst : Int))) (cond (decide ((↑(Utf8.decode x0 x1).fst : Int) ≤ 57)) (φ (x1 + (Utf8.decode x0 x1).snd)) (cond ((↑(Utf8.decode x0 x1).fst : Int) == 46) (φ (x1 + (Utf8.decode x0 x1).snd)) (k0 (false)))) (cond ((↑(Utf8.decode x0 x1).fst : Int) == 46) (φ (x1 + (Utf8.decode x0 x1).snd)) (k0 (false)))) (k0 (false))))) (k1 )
def L0.f {α : Type} (N : Nat) (c0 : BA) : Nat → Nat → (Bool → Option α) → Option α → Option α
 | 0, _, _, _ => none
 | n + 1, d0, k0, k1 => L0.st N c0 (fun e0 => L0.f N c0 n e0 k0 k1) d0 k0 k1
def L0.up (d : L0.sh.T) (e0 : Nat) : L0.sh.T := (((), ()), ((d.2.1.1, e0), ()))
def L0.k0 {α : Type} (d : L0.sh.T) (K : Cont α) : (Bool → Option α) := fun y0 => K (Exit.ret) (L0.x0.enc ((y0, ()), ()))
def L0.k1 {α : Type} (d : L0.sh.T) (K : Cont α) : Option α := K (Exit.exit 0) (L0.x1.enc (((), ()), ()))
def L0.F {α : Type} (N : Nat) (d : L0.sh.T) (K : Cont α) : Option α := L0.f N d.2.1.1 N d.2.1.2 (L0.k0 d K) (L0.k1 d K)
def ents76 {α : Type} (N : Nat) : List (SmE α) := [⟨0, 50, 4, [⟨L0.sh, L0.F N⟩]⟩]
def C (N : Nat) : Ctx := ⟨tys, [], [], N⟩
def L0.B {α : Type} (N : Nat) : Env → Cont α → Option α := evC tys 43 0 (evCall (C N) 50) (evCallQ (C N)) N an76 (smL (ents76 N) 0 50) (loopOf 4 Tryd.f76)
theorem L0.r {α : Type} (N : Nat) (φ : Env → Option α) (K : Cont α) (d : L0.sh.T) : L0.B N (L0.sh.enc d) (contL φ K (Env.norm 0 [14]) (Env.norm 0 [2])) = L0.st N d.2.1.1 (fun e0 => φ (L0.sh.enc (L0.up d e0))) d.2.1.2 (L0.k0 d K) (L0.k1 d K) := by kernel_rfl
theorem L0.e {α : Type} (N : Nat) : ∀ (n : Nat) (d : L0.sh.T) (K : Cont α), evL (L0.B N) (Env.norm 0 [14]) (Env.norm 0 [2]) n (L0.sh.enc d) K = L0.f N d.2.1.1 n d.2.1.2 (L0.k0 d K) (L0.k1 d K)
 | 0, d, K => rfl
 | n + 1, d, K => evL_contL.trans ((L0.r N _ K d).trans (congrArg (fun φ => L0.st N d.2.1.1 φ d.2.1.2 (L0.k0 d K) (L0.k1 d K)) (funext fun e0 => L0.e N n (L0.up d e0) K)))
theorem ents76_ok {α : Type} (N : Nat) : AllP (EntOk (C N) Tryd.f76 an76 (ents76 (α := α) N)) (ents76 N) := ⟨entOk_of (b0 := loopOf 4 Tryd.f76) (li0 := [14]) (lx0 := [2]) (by kernel_rfl) (by kernel_rfl) ⟨fun d K => L0.e N N d K, trivial⟩, trivial⟩
def g {α : Type} (N : Nat) (a0 : BA) (kr : (Bool → Option α)) : Option α :=
 cond (decide ((↑a0.data.toList.length : Int) < 1)) (kr (false)) (cond (decide (16 < (↑a0.data.toList.length : Int))) (kr (false)) (L0.f N (a0) N (0) (fun x2 => kr (x2)) (kr (true))))
theorem eq (N : Nat) (a0 : BA) : evF (C N) 50 Tryd.f76 an76 (smL (ents76 N) 0 50) [((.bool : K), false)] [⟨.str, a0⟩] = g N a0 (fun r0 => some [.dat (K.bool) r0]) := by kernel_rfl
theorem ctxOk (N : Nat) : CtxOk P (C N) := ctxOk_of tysOk mixedOk trivial trivial
theorem calls (N : Nat) (a0 : BA) {rs : List Rs} (h : g N a0 (fun r0 => some [.dat (K.bool) r0]) = some rs) : CallsTo P 76 [⟨.str, a0⟩] rs := evF_calls' (ctxOk N) (by rfl) (ents76_ok N) ((eq N a0).trans h)
end net_Name
def chkFrom : Nat → List UInt8 → Bool
 | _, [] => true
 | i, c :: l => (letterB c || (decide (0 < i) && otherB c)) && chkFrom (i + 1) l
theorem chkFrom_succ : ∀ (l : List UInt8) (i : Nat), chkFrom (i + 1) l = l.all fun c => letterB c || otherB c
 | [], i => rfl
 | c :: l, i => by
  rw [chkFrom, chkFrom_succ l (i + 1), List.all_cons, decide_eq_true (Nat.succ_pos i), Bool.true_and]
theorem nameL_chk : ∀ (l : List UInt8), l ≠ [] → nameL l = chkFrom 0 l
 | [], h => absurd rfl h
 | c :: l, _ => by
  rw [nameL, chkFrom, chkFrom_succ]
  simp
theorem ble_le (a n : Nat) : decide ((a : Int) ≤ (n : Int)) = Nat.ble a n := by
 by_cases h : a ≤ n
 ·
  rw [Nat.ble_eq_true_of_le h]; exact decide_eq_true (Int.ofNat_le.2 h)
 ·
  have : Nat.ble a n = false := by
   cases hb : Nat.ble a n
   ·
    rfl
   ·
    exact absurd (Nat.le_of_ble_eq_true hb) h
  rw [this]; exact decide_eq_false fun hc => h (Int.ofNat_le.1 hc)
theorem beq_nat (n a : Nat) : ((n : Int) == (a : Int)) = Nat.beq n a := by
 by_cases h : n = a
 ·
  subst h; rw [beq_t rfl]; exact beq_self_eq_true _
 ·
  rw [beq_f h]
  cases hb : ((n : Int) == (a : Int))
  ·
   rfl
  ·
   exact absurd (Int.ofNat_inj.1 (eq_of_beq hb)) h
theorem name_tree {α : Type} (b1 b2 b3 b4 b5 b6 b7 : Bool) (p k : Option α) :
  cond b1 (cond b2 p (cond b3 p (cond b4 (cond b5 (cond b6 p (cond b7 p k)) (cond b7 p k)) k))) (cond b3 p (cond b4 (cond b5 (cond b6 p (cond b7 p k)) (cond b7 p k)) k))
   = cond (((b1 && b2) || b3) || (b4 && ((b5 && b6) || b7))) p k := by
 cases b1 <;> cases b2 <;> cases b3 <;> cases b4 <;> cases b5 <;> cases b6 <;> cases b7 <;> rfl
theorem net_Name.L0.law {α : Type} {N : Nat} (s : BA) (k0 : Bool → Option α) (k1 : Option α) : ∀ (n pos : Nat), s.size < n + pos → pos ≤ s.size →
  net_Name.L0.f N s n pos k0 k1 = cond (chkFrom pos (s.data.toList.drop pos)) k1 (k0 false)
 | 0, pos, h, hp => absurd h (by omega)
 | n + 1, pos, h, hp => by
  rw [net_Name.L0.f, net_Name.L0.st]
  have hsz : s.data.toList.length = s.size := Array.length_toList
  by_cases hlt : pos < s.size
  ·
   have hl : pos < s.data.toList.length := by rw [hsz]; exact hlt
   have hc : s.data.toList[pos] = s[pos]'hlt := by simp [ByteArray.getElem_eq_getElem_data]
   rw [decide_eq_true hlt, cond_true, List.drop_eq_getElem_cons hl, hc, chkFrom, name_tree]
   by_cases ha : (s[pos]'hlt).toNat < 128
   ·
    rw [Go.decode_ascii s pos hlt ha]
    simp only
    rw [net_Name.L0.law s k0 k1 n (pos + 1) (by omega) (by omega)]
    have e1 : decide ((97 : Int) ≤ (((s[pos]'hlt).toNat : Nat) : Int)) = Nat.ble 97 (s[pos]'hlt).toNat := ble_le 97 _
    have e2 : decide ((((s[pos]'hlt).toNat : Nat) : Int) ≤ 122) = Nat.ble (s[pos]'hlt).toNat 122 := ble_le _ 122
    have e3 : ((((s[pos]'hlt).toNat : Nat) : Int) == 95) = Nat.beq (s[pos]'hlt).toNat 95 := beq_nat _ 95
    have e4 : decide ((48 : Int) ≤ (((s[pos]'hlt).toNat : Nat) : Int)) = Nat.ble 48 (s[pos]'hlt).toNat := ble_le 48 _
    have e5 : decide ((((s[pos]'hlt).toNat : Nat) : Int) ≤ 57) = Nat.ble (s[pos]'hlt).toNat 57 := ble_le _ 57
    have e6 : ((((s[pos]'hlt).toNat : Nat) : Int) == 46) = Nat.beq (s[pos]'hlt).toNat 46 := beq_nat _ 46
    have e7 : decide ((0 : Int) < (pos : Int)) = decide (0 < pos) := by
     by_cases h0 : 0 < pos
     ·
      rw [decide_eq_true h0]; exact decide_eq_true (by omega)
     ·
      rw [decide_eq_false h0]; exact decide_eq_false (by omega)
    rw [e1, e2, e3, e4, e5, e6, e7]
    unfold letterB otherB
    cases (Nat.ble 97 (s[pos]'hlt).toNat && Nat.ble (s[pos]'hlt).toNat 122 || Nat.beq (s[pos]'hlt).toNat 95) || (decide (0 < pos) && (Nat.ble 48 (s[pos]'hlt).toNat && Nat.ble (s[pos]'hlt).toNat 57 || Nat.beq (s[pos]'hlt).toNat 46)) <;> rfl
   ·
    have hd := (Go.decode_high s pos hlt (by omega)).1
    have f1 : decide ((((Utf8.decode s pos).1 : Nat) : Int) ≤ 122) = false := decide_eq_false (by omega)
    have f2 : ((((Utf8.decode s pos).1 : Nat) : Int) == 95) = false := by
     cases hb : ((((Utf8.decode s pos).1 : Nat) : Int) == 95)
     ·
      rfl
     ·
      have := eq_of_beq hb; omega
    have f3 : decide ((((Utf8.decode s pos).1 : Nat) : Int) ≤ 57) = false := decide_eq_false (by omega)
    have f4 : ((((Utf8.decode s pos).1 : Nat) : Int) == 46) = false := by
     cases hb : ((((Utf8.decode s pos).1 : Nat) : Int) == 46)
     ·
      rfl
     ·
      have := eq_of_beq hb; omega
    have g1 : letterB (s[pos]'hlt) = false := by
     unfold letterB
     have a1 : Nat.ble (s[pos]'hlt).toNat 122 = false := by
      cases hb : Nat.ble (s[pos]'hlt).toNat 122
      ·
       rfl
      ·
       have := Nat.le_of_ble_eq_true hb; omega
     rw [a1, beq_f (by omega)]
     simp
    have g2 : otherB (s[pos]'hlt) = false := by
     unfold otherB
     have a1 : Nat.ble (s[pos]'hlt).toNat 57 = false := by
      cases hb : Nat.ble (s[pos]'hlt).toNat 57
      ·
       rfl
      ·
       have := Nat.le_of_ble_eq_true hb; omega
     rw [a1, beq_f (by omega)]
     simp
    rw [f1, f2, f3, f4, g1, g2]
    simp
  ·
   rw [decide_eq_false hlt, cond_false, List.drop_eq_nil_of_le (by rw [hsz]; omega)]
   rfl
theorem net_Name.law {α : Type} {N : Nat} (hN : 18446744073709551616 ≤ N) (a0 : BA) (w0 : K.wf (.str) a0) (kr : (Bool → Option α)) : net_Name.g N a0 kr = kr (net_Name.spec a0) := by
 unfold net_Name.g net_Name.spec nameOk
 have hsz : a0.data.toList.length = a0.size := Array.length_toList
 by_cases h1 : a0.data.toList.length < 1
 ·
  have e1 : decide ((a0.data.toList.length : Int) < 1) = true := decide_eq_true (by omega)
  have hn : a0.data.toList = [] := List.eq_nil_of_length_eq_zero (by omega)
  rw [e1, cond_true, hn]
  rfl
 ·
  have e1 : decide ((a0.data.toList.length : Int) < 1) = false := decide_eq_false (by omega)
  rw [e1, cond_false]
  by_cases h2 : 16 < a0.data.toList.length
  ·
   have e2 : decide (16 < (a0.data.toList.length : Int)) = true := decide_eq_true (by omega)
   have e3 : Nat.ble a0.data.toList.length 16 = false := by
    cases hb : Nat.ble a0.data.toList.length 16
    ·
     rfl
    ·
     have := Nat.le_of_ble_eq_true hb; omega
   rw [e2, cond_true, e3]
   rfl
  ·
   have e2 : decide (16 < (a0.data.toList.length : Int)) = false := decide_eq_false (by omega)
   rw [e2, cond_false, Nat.ble_eq_true_of_le (show a0.data.toList.length ≤ 16 by omega), Bool.true_and, nameL_chk _ (fun hc => h1 (by rw [hc]; exact Nat.one_pos))]
   refine (net_Name.L0.law (N := N) a0 (fun x => kr x) (kr true) N 0 (by omega) (Nat.zero_le _)).trans ?_
   rw [List.drop_zero]
   cases chkFrom 0 a0.data.toList <;> rfl
theorem net_Name.ok : FentOk P 76 net_Name.fent := fentOk_of (by kernel_rfl) fun ds hk => by
 obtain ⟨a0, l0, rfl, h0⟩ := ds_cons hk
 obtain rfl := ds0 h0
 exact ⟨true, [.dat (.bool) (net_Name.spec a0)], fun h hw => net_Name.calls 18446744073709551616 a0 (net_Name.law (Nat.le_refl _) a0 hw.1 _), fun α k => rfl⟩
end Go.VI
namespace Go.VI
open Go Go.Proofs
namespace marking_Valid
def an44 : Ann := [(4, [11, 12, 13], [4])]
def L0.sh : Sh := { sl := [(11, SV.a (SA.d (K.int IntKind.i64).sl)), (12, SV.a (SA.d (K.int IntKind.i64))), (13, SV.a (SA.d (K.int IntKind.i64)))], os := [], nx := 0 }
def L0.x0 : Sh := { sl := [(4, SV.a (SA.d K.bool))], os := [], nx := 0 }
def L0.x1 : Sh := { sl := [(4, SV.j)], os := [], nx := 0 }
def L0.st {α : Type} (N : Nat) (x0 : (List Int)) (x1 : Int) (φ : (Int → Option α)) (x2 : Int) (k0 : (Bool → Option α)) (k1 : Option α) : Option α :=
 cond (decide (x2 < x1)) (cond (decide (0 ≤ x2) && decide (x2 < (↑x0.length : Int))) (cond (decide (x0.getD x2.toNat 0 < 0)) (k0 (false)) (cond (decide (1048576 < x0.getD x2.toNat (0 : Int))) (k0 (false)) (φ (IntKind.i64.wrap (x2 + 1))))) (none)) (k1 )
def L0.f {α : Type} (N : Nat) (c0 : (List Int)) (c1 : Int) : Nat → Int → (Bool → Option α) → Option α → Option α
 | 0, _, _, _ => none
 | n + 1, d0, k0, k1 => L0.st N c0 c1 (fun e0 => L0.f N c0 c1 n e0 k0 k1) d0 k0 k1
def L0.up (d : L0.sh.T) (e0 : Int) : L0.sh.T := ((d.1.1, (d.1.2.1, (e0, ()))), ())
def L0.k0 {α : Type} (d : L0.sh.T) (K : Cont α) : (Bool → Option α) := fun y0 => K (Exit.ret) (L0.x0.enc ((y0, ()), ()))
def L0.k1 {α : Type} (d : L0.sh.T) (K : Cont α) : Option α := K (Exit.exit 0) (L0.x1.enc (((), ()), ()))
def L0.F {α : Type} (N : Nat) (d : L0.sh.T) (K : Cont α) : Option α := L0.f N d.1.1 d.1.2.1 N d.1.2.2.1 (L0.k0 d K) (L0.k1 d K)
def ents44 {α : Type} (N : Nat) : List (SmE α) := [⟨0, 50, 4, [⟨L0.sh, L0.F N⟩]⟩]
def C (N : Nat) : Ctx := ⟨tys, [], [], N⟩
def L0.B {α : Type} (N : Nat) : Env → Cont α → Option α := evC tys 24 0 (evCall (C N) 50) (evCallQ (C N)) N an44 (smL (ents44 N) 0 50) (loopOf 4 Tryd.f44)
theorem L0.r {α : Type} (N : Nat) (φ : Env → Option α) (K : Cont α) (d : L0.sh.T) : L0.B N (L0.sh.enc d) (contL φ K (Env.norm 0 [11, 12, 13]) (Env.norm 0 [4])) = L0.st N d.1.1 d.1.2.1 (fun e0 => φ (L0.sh.enc (L0.up d e0))) d.1.2.2.1 (L0.k0 d K) (L0.k1 d K) := by kernel_rfl
theorem L0.e {α : Type} (N : Nat) : ∀ (n : Nat) (d : L0.sh.T) (K : Cont α), evL (L0.B N) (Env.norm 0 [11, 12, 13]) (Env.norm 0 [4]) n (L0.sh.enc d) K = L0.f N d.1.1 d.1.2.1 n d.1.2.2.1 (L0.k0 d K) (L0.k1 d K)
 | 0, d, K => rfl
 | n + 1, d, K => evL_contL.trans ((L0.r N _ K d).trans (congrArg (fun φ => L0.st N d.1.1 d.1.2.1 φ d.1.2.2.1 (L0.k0 d K) (L0.k1 d K)) (funext fun e0 => L0.e N n (L0.up d e0) K)))
theorem ents44_ok {α : Type} (N : Nat) : AllP (EntOk (C N) Tryd.f44 an44 (ents44 (α := α) N)) (ents44 N) := ⟨entOk_of (b0 := loopOf 4 Tryd.f44) (li0 := [11, 12, 13]) (lx0 := [4]) (by kernel_rfl) (by kernel_rfl) ⟨fun d K => L0.e N N d K, trivial⟩, trivial⟩
def g {α : Type} (N : Nat) (a0 : List Int) (a1 : Int) (kr : (Bool → Option α)) : Option α :=
 cond ((↑a0.length : Int) != a1) (kr (false)) (L0.f N (a0) ((↑a0.length : Int)) N (0) (fun x3 => kr (x3)) (kr (true)))
theorem eq (N : Nat) (a0 : List Int) (a1 : Int) : evF (C N) 50 Tryd.f44 an44 (smL (ents44 N) 0 50) [((.bool : K), false)] [⟨.sl (.int .i64), a0⟩, ⟨.int .i64, a1⟩] = g N a0 a1 (fun r0 => some [.dat (K.bool) r0]) := by kernel_rfl
theorem ctxOk (N : Nat) : CtxOk P (C N) := ctxOk_of tysOk mixedOk trivial trivial
theorem calls (N : Nat) (a0 : List Int) (a1 : Int) {rs : List Rs} (h : g N a0 a1 (fun r0 => some [.dat (K.bool) r0]) = some rs) : CallsTo P 44 [⟨.sl (.int .i64), a0⟩, ⟨.int .i64, a1⟩] rs := evF_calls' (ctxOk N) (by rfl) (ents44_ok N) ((eq N a0 a1).trans h)
def L0.l {α : Type} (N : Nat) (x0 : (List Int)) (k0 : (Bool → Option α)) (k1 : Option α) : List Int → Int → Option α
 | [], x2 => k1 
 | x :: l, x2 => (cond (decide (x < 0)) (k0 (false)) (cond (decide (1048576 < x)) (k0 (false)) (L0.l N x0 k0 k1 l (x2 + 1))))
theorem L0.rng {α : Type} {N : Nat} (x0 : (List Int)) (hl : x0.length ≤ maxLen) (k0 : (Bool → Option α)) (k1 : Option α) : ∀ (n j : Nat), x0.length < n + j → j ≤ x0.length → L0.f N x0 (x0.length : Int) n (j : Int) k0 k1 = L0.l N x0 k0 k1 (x0.drop j) (j : Int) :=
 rng0 x0 hl (fun n i => L0.f N x0 (x0.length : Int) n i k0 k1) (fun l i => L0.l N x0 k0 k1 l i) (fun n j hj h ih => by simp only [L0.f, L0.st, L0.l, h.a, h.b, h.c, h.d, h.e, Bool.true_and, Bool.and_true, Bool.and_self, cond_true, ih] <;> rfl) (fun n j h => by simp only [L0.f, L0.st, L0.l, h, cond_false])
end marking_Valid
theorem marking_Valid.L0.law {α : Type} {N : Nat} (xs : List Int) (k0 : Bool → Option α) (k1 : Option α) : ∀ (l : List Int) (i : Int),
  marking_Valid.L0.l N xs k0 k1 l i = cond (l.all fun k => decide (0 ≤ k) && decide (k ≤ 1048576)) k1 (k0 false)
 | [], i => rfl
 | x :: l, i => by
  rw [marking_Valid.L0.l, marking_Valid.L0.law xs k0 k1 l, List.all_cons]
  by_cases h1 : x < 0
  ·
   have e2 : decide (0 ≤ x) = false := decide_eq_false (by omega)
   rw [decide_eq_true h1, e2]
   rfl
  ·
   have e2 : decide (0 ≤ x) = true := decide_eq_true (by omega)
   rw [decide_eq_false h1, e2, cond_false, Bool.true_and]
   by_cases h3 : 1048576 < x
   ·
    have e4 : decide (x ≤ 1048576) = false := decide_eq_false (by omega)
    rw [decide_eq_true h3, e4]
    rfl
   ·
    have e4 : decide (x ≤ 1048576) = true := decide_eq_true (by omega)
    rw [decide_eq_false h3, e4]
    rfl
theorem marking_Valid.law {α : Type} {N : Nat} (hN : 18446744073709551616 ≤ N) (a0 : List Int) (a1 : Int) (w0 : K.wf (.sl (.int .i64)) a0) (w1 : K.wf (.int .i64) a1) (kr : (Bool → Option α)) : marking_Valid.g N a0 a1 kr = kr (marking_Valid.spec a0 a1) := by
 unfold marking_Valid.g marking_Valid.spec
 by_cases h : (a0.length : Int) = a1
 ·
  have e1 : ((a0.length : Int) != a1) = false := by rw [h]; exact bne_self_eq_false _
  rw [e1, cond_false, decide_eq_true h, Bool.true_and]
  refine (marking_Valid.L0.rng (N := N) a0 w0.1 (fun x => kr x) (kr true) N 0 (by have := le_fuel w0.1 hN; omega) (Nat.zero_le _)).trans ?_
  rw [List.drop_zero, marking_Valid.L0.law]
  cases a0.all fun k => decide (0 ≤ k) && decide (k ≤ 1048576) <;> rfl
 ·
  have e1 : ((a0.length : Int) != a1) = true := bne_iff_ne.2 h
  rw [e1, cond_true, decide_eq_false h, Bool.false_and]
theorem marking_Valid.ok : FentOk P 44 marking_Valid.fent := fentOk_of (by kernel_rfl) fun ds hk => by
 obtain ⟨a0, l0, rfl, h0⟩ := ds_cons hk
 obtain ⟨a1, l1, rfl, h1⟩ := ds_cons h0
 obtain rfl := ds0 h1
 exact ⟨true, [.dat (.bool) (marking_Valid.spec a0 a1)], fun h hw => marking_Valid.calls 18446744073709551616 a0 a1 (marking_Valid.law (Nat.le_refl _) a0 a1 hw.1 hw.2.1 _), fun α k => rfl⟩
end Go.VI
namespace Go.VI
open Go Go.Proofs
namespace net_checkPlace
def an78 : Ann := []
def ents78 {α : Type} (N : Nat) : List (SmE α) := []
def C (N : Nat) : Ctx := ⟨tys, [(44, marking_Valid.fent)], [], N⟩
theorem ents78_ok {α : Type} (N : Nat) : AllP (EntOk (C N) Tryd.f78 an78 (ents78 (α := α) N)) (ents78 N) := trivial
def g {α : Type} (N : Nat) (a0 : BA × Int × Int) (kr : (Int → Option α)) : Option α :=
 cond (decide (a0.snd.snd < 0)) (kr (1)) (cond (decide (1048576 < a0.snd.snd)) (kr (1)) (cond (!(marking_Valid.spec [a0.snd.fst] 1)) (kr (10)) (cond (a0.snd.snd != 0) (cond (decide (a0.snd.snd < a0.snd.fst)) (kr (10)) (kr (0))) (kr (0)))))
theorem eq (N : Nat) (a0 : BA × Int × Int) : evF (C N) 50 Tryd.f78 an78 (smL (ents78 N) 0 50) [((.int .i64 : K), false)] [⟨.st (.pr (.str) (.pr (.int .i64) (.int .i64))), a0⟩] = g N a0 (fun r0 => some [.dat (K.int IntKind.i64) r0]) := by kernel_rfl
theorem ctxOk (N : Nat) : CtxOk P (C N) := ctxOk_of tysOk mixedOk ⟨marking_Valid.ok, trivial⟩ trivial
theorem calls (N : Nat) (a0 : BA × Int × Int) {rs : List Rs} (h : g N a0 (fun r0 => some [.dat (K.int IntKind.i64) r0]) = some rs) : CallsTo P 78 [⟨.st (.pr (.str) (.pr (.int .i64) (.int .i64))), a0⟩] rs := evF_calls' (ctxOk N) (by rfl) (ents78_ok N) ((eq N a0).trans h)
end net_checkPlace
theorem net_checkPlace.law {α : Type} {N : Nat} (hN : 18446744073709551616 ≤ N) (a0 : BA × Int × Int) (w0 : K.wf (.st (.pr (.str) (.pr (.int .i64) (.int .i64)))) a0) (kr : (Int → Option α)) : net_checkPlace.g N a0 kr = kr (net_checkPlace.spec a0) := by
 unfold net_checkPlace.g net_checkPlace.spec placeE marking_Valid.spec
 obtain ⟨nm, ini, cap⟩ := a0
 simp only [List.all_cons, List.all_nil, Bool.and_true, List.length_singleton]
 have e0 : decide (((1 : Nat) : Int) = 1) = true := rfl
 have e1 : (decide (0 ≤ ini) && decide (ini ≤ 1048576)) = !(decide (ini < 0) || decide (1048576 < ini)) := by
  by_cases h1 : ini < 0
  ·
   rw [decide_eq_true h1, decide_eq_false (show ¬ 0 ≤ ini by omega)]; rfl
  ·
   rw [decide_eq_false h1, decide_eq_true (show 0 ≤ ini by omega)]
   by_cases h2 : 1048576 < ini
   ·
    rw [decide_eq_true h2, decide_eq_false (show ¬ ini ≤ 1048576 by omega)]; rfl
   ·
    rw [decide_eq_false h2, decide_eq_true (show ini ≤ 1048576 by omega)]; rfl
 have e2 : (cap != 0) = !(cap == 0) := rfl
 rw [e0, Bool.true_and, e1, e2]
 cases decide (cap < 0) <;> cases decide (1048576 < cap) <;> cases decide (ini < 0) <;> cases decide (1048576 < ini) <;> cases (cap == 0) <;> cases decide (cap < ini) <;> rfl
theorem net_checkPlace.ok : FentOk P 78 net_checkPlace.fent := fentOk_of (by kernel_rfl) fun ds hk => by
 obtain ⟨a0, l0, rfl, h0⟩ := ds_cons hk
 obtain rfl := ds0 h0
 exact ⟨true, [.dat (.int .i64) (net_checkPlace.spec a0)], fun h hw => net_checkPlace.calls 18446744073709551616 a0 (net_checkPlace.law (Nat.le_refl _) a0 hw.1 _), fun α k => rfl⟩
end Go.VI
namespace Go.VI
open Go Go.Proofs
namespace net_checkArcs
def an93 : Ann := [(2, [0, 1, 7, 8, 9], [4])]
def L0.sh : Sh := { sl := [(0, SV.a (SA.d ((K.int IntKind.i64).pr (K.int IntKind.i64)).st.sl)), (1, SV.a (SA.d (K.int IntKind.i64))), (7, SV.a (SA.d ((K.int IntKind.i64).pr (K.int IntKind.i64)).st.sl)), (8, SV.a (SA.d (K.int IntKind.i64))), (9, SV.a (SA.d (K.int IntKind.i64)))], os := [], nx := 0 }
def L0.x0 : Sh := { sl := [(4, SV.a (SA.d (K.int IntKind.i64)))], os := [], nx := 0 }
def L0.x1 : Sh := { sl := [(4, SV.j)], os := [], nx := 0 }
def L0.st {α : Type} (N : Nat) (x0 : (List (Int × Int))) (x1 : Int) (x2 : (List (Int × Int))) (x3 : Int) (φ : (Int → Option α)) (x4 : Int) (k0 : (Int → Option α)) (k1 : Option α) : Option α :=
 cond (decide (x4 < x3)) (cond (decide (0 ≤ x4) && decide (x4 < (↑x2.length : Int))) (cond (decide ((x2.getD x4.toNat ((0 : Int), (0 : Int))).fst < 0)) (k0 (7)) (cond (decide (x1 ≤ (x2.getD x4.toNat ((0 : Int), (0 : Int))).fst)) (k0 (7)) (cond (decide (0 < x4)) (cond (decide (0 ≤ IntKind.i64.wrap (x4 - 1)) && decide (IntKind.i64.wrap (x4 - 1) < (↑x0.length : Int))) (cond (decide ((x2.getD x4.toNat ((0 : Int), (0 : Int))).fst ≤ (x0.getD (IntKind.i64.wrap (x4 - 1)).toNat ((0 : Int), (0 : Int))).fst)) (k0 (8)) (cond (decide ((x2.getD x4.toNat ((0 : Int), (0 : Int))).snd < 1)) (k0 (9)) (cond (decide (99 < (x2.getD x4.toNat ((0 : Int), (0 : Int))).snd)) (k0 (9)) (φ (IntKind.i64.wrap (x4 + 1)))))) (none)) (cond (decide ((x2.getD x4.toNat ((0 : Int), (0 : Int))).snd < 1)) (k0 (9)) (cond (decide (99 < (x2.getD x4.toNat ((0 : Int), (0 : Int))).snd)) (k0 (9)) (φ (IntKind.i64.wrap (x4 + 1)))))))) (none)) (k1 )
def L0.f {α : Type} (N : Nat) (c0 : (List (Int × Int))) (c1 : Int) (c2 : (List (Int × Int))) (c3 : Int) : Nat → Int → (Int → Option α) → Option α → Option α
 | 0, _, _, _ => none
 | n + 1, d0, k0, k1 => L0.st N c0 c1 c2 c3 (fun e0 => L0.f N c0 c1 c2 c3 n e0 k0 k1) d0 k0 k1
def L0.up (d : L0.sh.T) (e0 : Int) : L0.sh.T := ((d.1.1, (d.1.2.1, (d.1.2.2.1, (d.1.2.2.2.1, (e0, ()))))), ())
def L0.k0 {α : Type} (d : L0.sh.T) (K : Cont α) : (Int → Option α) := fun y0 => K (Exit.ret) (L0.x0.enc ((y0, ()), ()))
def L0.k1 {α : Type} (d : L0.sh.T) (K : Cont α) : Option α := K (Exit.exit 0) (L0.x1.enc (((), ()), ()))
def L0.F {α : Type} (N : Nat) (d : L0.sh.T) (K : Cont α) : Option α := L0.f N d.1.1 d.1.2.1 d.1.2.2.1 d.1.2.2.2.1 N d.1.2.2.2.2.1 (L0.k0 d K) (L0.k1 d K)
def ents93 {α : Type} (N : Nat) : List (SmE α) := [⟨0, 50, 2, [⟨L0.sh, L0.F N⟩]⟩]
def C (N : Nat) : Ctx := ⟨tys, [], [], N⟩
def L0.B {α : Type} (N : Nat) : Env → Cont α → Option α := evC tys 48 0 (evCall (C N) 50) (evCallQ (C N)) N an93 (smL (ents93 N) 0 50) (loopOf 2 Tryd.f93)
theorem L0.r {α : Type} (N : Nat) (φ : Env → Option α) (K : Cont α) (d : L0.sh.T) : L0.B N (L0.sh.enc d) (contL φ K (Env.norm 0 [0, 1, 7, 8, 9]) (Env.norm 0 [4])) = L0.st N d.1.1 d.1.2.1 d.1.2.2.1 d.1.2.2.2.1 (fun e0 => φ (L0.sh.enc (L0.up d e0))) d.1.2.2.2.2.1 (L0.k0 d K) (L0.k1 d K) := by kernel_rfl
theorem L0.e {α : Type} (N : Nat) : ∀ (n : Nat) (d : L0.sh.T) (K : Cont α), evL (L0.B N) (Env.norm 0 [0, 1, 7, 8, 9]) (Env.norm 0 [4]) n (L0.sh.enc d) K = L0.f N d.1.1 d.1.2.1 d.1.2.2.1 d.1.2.2.2.1 n d.1.2.2.2.2.1 (L0.k0 d K) (L0.k1 d K)
 | 0, d, K => rfl
 | n + 1, d, K => evL_contL.trans ((L0.r N _ K d).trans (congrArg (fun φ => L0.st N d.1.1 d.1.2.1 d.1.2.2.1 d.1.2.2.2.1 φ d.1.2.2.2.2.1 (L0.k0 d K) (L0.k1 d K)) (funext fun e0 => L0.e N n (L0.up d e0) K)))
theorem ents93_ok {α : Type} (N : Nat) : AllP (EntOk (C N) Tryd.f93 an93 (ents93 (α := α) N)) (ents93 N) := ⟨entOk_of (b0 := loopOf 2 Tryd.f93) (li0 := [0, 1, 7, 8, 9]) (lx0 := [4]) (by kernel_rfl) (by kernel_rfl) ⟨fun d K => L0.e N N d K, trivial⟩, trivial⟩
def g {α : Type} (N : Nat) (a0 : List (Int × Int)) (a1 : Int) (kr : (Int → Option α)) : Option α :=
 L0.f N (a0) (a1) (a0) ((↑a0.length : Int)) N (0) (fun x5 => kr (x5)) (kr (0))
theorem eq (N : Nat) (a0 : List (Int × Int)) (a1 : Int) : evF (C N) 50 Tryd.f93 an93 (smL (ents93 N) 0 50) [((.int .i64 : K), false)] [⟨.sl (.st (.pr (.int .i64) (.int .i64))), a0⟩, ⟨.int .i64, a1⟩] = g N a0 a1 (fun r0 => some [.dat (K.int IntKind.i64) r0]) := by kernel_rfl
theorem ctxOk (N : Nat) : CtxOk P (C N) := ctxOk_of tysOk mixedOk trivial trivial
theorem calls (N : Nat) (a0 : List (Int × Int)) (a1 : Int) {rs : List Rs} (h : g N a0 a1 (fun r0 => some [.dat (K.int IntKind.i64) r0]) = some rs) : CallsTo P 93 [⟨.sl (.st (.pr (.int .i64) (.int .i64))), a0⟩, ⟨.int .i64, a1⟩] rs := evF_calls' (ctxOk N) (by rfl) (ents93_ok N) ((eq N a0 a1).trans h)
def L0.l {α : Type} (N : Nat) (x0 : (List (Int × Int))) (x1 : Int) (x2 : (List (Int × Int))) (k0 : (Int → Option α)) (k1 : Option α) : List (Int × Int) → Int → Option α
 | [], x4 => k1 
 | x :: l, x4 => (cond (decide (x.fst < 0)) (k0 (7)) (cond (decide (x1 ≤ x.fst)) (k0 (7)) (cond (decide (0 < x4)) (cond (decide (0 ≤ IntKind.i64.wrap (x4 - 1)) && decide (IntKind.i64.wrap (x4 - 1) < (↑x0.length : Int))) (cond (decide (x.fst ≤ (x0.getD (IntKind.i64.wrap (x4 - 1)).toNat ((0 : Int), (0 : Int))).fst)) (k0 (8)) (cond (decide (x.snd < 1)) (k0 (9)) (cond (decide (99 < x.snd)) (k0 (9)) (L0.l N x0 x1 x2 k0 k1 l (x4 + 1))))) (none)) (cond (decide (x.snd < 1)) (k0 (9)) (cond (decide (99 < x.snd)) (k0 (9)) (L0.l N x0 x1 x2 k0 k1 l (x4 + 1)))))))
theorem L0.rng {α : Type} {N : Nat} (x0 : (List (Int × Int))) (x1 : Int) (x2 : (List (Int × Int))) (hl : x2.length ≤ maxLen) (k0 : (Int → Option α)) (k1 : Option α) : ∀ (n j : Nat), x2.length < n + j → j ≤ x2.length → L0.f N x0 x1 x2 (x2.length : Int) n (j : Int) k0 k1 = L0.l N x0 x1 x2 k0 k1 (x2.drop j) (j : Int) :=
 rng0 x2 hl (fun n i => L0.f N x0 x1 x2 (x2.length : Int) n i k0 k1) (fun l i => L0.l N x0 x1 x2 k0 k1 l i) (fun n j hj h ih => by simp only [L0.f, L0.st, L0.l, h.a, h.b, h.c, h.d, h.e, Bool.true_and, Bool.and_true, Bool.and_self, cond_true, ih] <;> rfl) (fun n j h => by simp only [L0.f, L0.st, L0.l, h, cond_false])
end net_checkArcs
def prevA (a : List (Int × Int)) : Nat → Option Int
 | 0 => none
 | j + 1 => some (a.getD j (0, 0)).1
theorem arcsE_cons (np : Int) (prev : Option Int) (a : Int × Int) (l : List (Int × Int)) : arcsE np prev (a :: l) = cond (decide (a.1 < 0) || decide (np ≤ a.1)) (7 : Int) (cond (match prev with | some q => decide (a.1 ≤ q) | none => false) (8 : Int) (cond (decide (a.2 < 1) || decide (99 < a.2)) (9 : Int) (arcsE np (some a.1) l))) := by
 cases prev <;> rfl
theorem arcs_tree {α : Type} (b1 b2 b3 b4 b5 : Bool) (e : Int) (k0 : Int → Option α) :
  cond b1 (k0 7) (cond b2 (k0 7) (cond b3 (k0 8) (cond b4 (k0 9) (cond b5 (k0 9) (k0 e))))) = k0 (cond (b1 || b2) 7 (cond b3 8 (cond (b4 || b5) 9 e))) := by
 cases b1 <;> cases b2 <;> cases b3 <;> cases b4 <;> cases b5 <;> rfl
theorem net_checkArcs.L0.law {α : Type} {N : Nat} (a : List (Int × Int)) (ha : a.length ≤ maxLen) (np : Int) (xs : List (Int × Int)) (k0 : Int → Option α) : ∀ (l : List (Int × Int)) (j : Nat), l = a.drop j →
  net_checkArcs.L0.l N a np xs k0 (k0 0) l (j : Int) = k0 (arcsE np (prevA a j) l)
 | [], j, _ => rfl
 | x :: l, j, hl => by
  obtain ⟨hj, hx, hl'⟩ := drop_step hl
  have ih := net_checkArcs.L0.law (N := N) a ha np xs k0 l (j + 1) hl'
  have hp : prevA a (j + 1) = some x.1 := by rw [prevA, getD_n hj, hx]
  rw [hp, succ_cast] at ih
  rw [net_checkArcs.L0.l, ih, arcsE_cons]
  cases j with
  | zero =>
   have e3 : decide ((0 : Int) < ((0 : Nat) : Int)) = false := rfl
   rw [e3, cond_false]
   exact arcs_tree _ _ false _ _ _ k0
  | succ i =>
   have e3 : decide ((0 : Int) < ((i + 1 : Nat) : Int)) = true := decide_eq_true (by omega)
   have e4 : IntKind.i64.wrap (((i + 1 : Nat) : Int) - 1) = (i : Int) := by
    unfold maxLen at ha
    rw [wrap_i64 (inI_i64.2 (by omega))]
    omega
   rw [e3, cond_true, e4, d_0, d_lt (show i < a.length by omega), Bool.and_self, cond_true, Int.toNat_natCast]
   exact arcs_tree _ _ _ _ _ _ k0
theorem net_checkArcs.law {α : Type} {N : Nat} (hN : 18446744073709551616 ≤ N) (a0 : List (Int × Int)) (a1 : Int) (w0 : K.wf (.sl (.st (.pr (.int .i64) (.int .i64)))) a0) (w1 : K.wf (.int .i64) a1) (kr : (Int → Option α)) : net_checkArcs.g N a0 a1 kr = kr (net_checkArcs.spec a0 a1) := by
 unfold net_checkArcs.g net_checkArcs.spec
 refine (net_checkArcs.L0.rng (N := N) a0 a1 a0 w0.1 (fun x => kr x) (kr 0) N 0 (by have := le_fuel w0.1 hN; omega) (Nat.zero_le _)).trans ?_
 rw [List.drop_zero]
 exact net_checkArcs.L0.law (N := N) a0 w0.1 a1 a0 (fun x => kr x) a0 0 rfl
theorem net_checkArcs.ok : FentOk P 93 net_checkArcs.fent := fentOk_of (by kernel_rfl) fun ds hk => by
 obtain ⟨a0, l0, rfl, h0⟩ := ds_cons hk
 obtain ⟨a1, l1, rfl, h1⟩ := ds_cons h0
 obtain rfl := ds0 h1
 exact ⟨true, [.dat (.int .i64) (net_checkArcs.spec a0 a1)], fun h hw => net_checkArcs.calls 18446744073709551616 a0 a1 (net_checkArcs.law (Nat.le_refl _) a0 a1 hw.1 hw.2.1 _), fun α k => rfl⟩
end Go.VI
namespace Go.VI
open Go Go.Proofs
namespace net_checkTrans
def an79 : Ann := [(4, [1, 22, 23, 24], [4])]
def L0.sh : Sh := { sl := [(1, SV.a (SA.d (K.int IntKind.i64))), (22, SV.a (SA.fx (Atom.sl 0 0 none))), (23, SV.a (SA.d (K.int IntKind.i64))), (24, SV.a (SA.d (K.int IntKind.i64)))], os := [(0, SO.row ((K.int IntKind.i64).pr (K.int IntKind.i64)).st.sl 0)], nx := 1 }
def L0.x0 : Sh := { sl := [(4, SV.a (SA.d (K.int IntKind.i64)))], os := [], nx := 0 }
def L0.x1 : Sh := { sl := [(4, SV.j)], os := [], nx := 0 }
def L0.st {α : Type} (N : Nat) (x0 : Int) (x1 : Int) (x3 : (List (List (Int × Int)))) (φ : (Int → Option α)) (x2 : Int) (k0 : (Int → Option α)) (k1 : Option α) : Option α :=
 cond (decide (x2 < x1)) (cond (decide (0 ≤ x2) && decide (x2 < (↑x3.length : Int))) (cond ((net_checkArcs.spec (x3.getD (0 + x2.toNat) []) x0) != 0) (k0 ((net_checkArcs.spec (x3.getD (0 + x2.toNat) []) x0))) (φ (IntKind.i64.wrap (x2 + 1)))) (none)) (k1 )
def L0.f {α : Type} (N : Nat) (c0 : Int) (c1 : Int) (c2 : (List (List (Int × Int)))) : Nat → Int → (Int → Option α) → Option α → Option α
 | 0, _, _, _ => none
 | n + 1, d0, k0, k1 => L0.st N c0 c1 c2 (fun e0 => L0.f N c0 c1 c2 n e0 k0 k1) d0 k0 k1
def L0.up (d : L0.sh.T) (e0 : Int) : L0.sh.T := ((d.1.1, ((), (d.1.2.2.1, (e0, ())))), (d.2.1, ()))
def L0.k0 {α : Type} (d : L0.sh.T) (K : Cont α) : (Int → Option α) := fun y0 => K (Exit.ret) (L0.x0.enc ((y0, ()), ()))
def L0.k1 {α : Type} (d : L0.sh.T) (K : Cont α) : Option α := K (Exit.exit 0) (L0.x1.enc (((), ()), ()))
def L0.F {α : Type} (N : Nat) (d : L0.sh.T) (K : Cont α) : Option α := L0.f N d.1.1 d.1.2.2.1 d.2.1 N d.1.2.2.2.1 (L0.k0 d K) (L0.k1 d K)
def ents79 {α : Type} (N : Nat) : List (SmE α) := [⟨0, 50, 4, [⟨L0.sh, L0.F N⟩]⟩]
def C (N : Nat) : Ctx := ⟨tys, [(93, net_checkArcs.fent)], [], N⟩
def L0.B {α : Type} (N : Nat) : Env → Cont α → Option α := evC tys 35 0 (evCall (C N) 50) (evCallQ (C N)) N an79 (smL (ents79 N) 0 50) (loopOf 4 Tryd.f79)
theorem L0.r {α : Type} (N : Nat) (φ : Env → Option α) (K : Cont α) (d : L0.sh.T) : L0.B N (L0.sh.enc d) (contL φ K (Env.norm 0 [1, 22, 23, 24]) (Env.norm 0 [4])) = L0.st N d.1.1 d.1.2.2.1 d.2.1 (fun e0 => φ (L0.sh.enc (L0.up d e0))) d.1.2.2.2.1 (L0.k0 d K) (L0.k1 d K) := by kernel_rfl
theorem L0.e {α : Type} (N : Nat) : ∀ (n : Nat) (d : L0.sh.T) (K : Cont α), evL (L0.B N) (Env.norm 0 [1, 22, 23, 24]) (Env.norm 0 [4]) n (L0.sh.enc d) K = L0.f N d.1.1 d.1.2.2.1 d.2.1 n d.1.2.2.2.1 (L0.k0 d K) (L0.k1 d K)
 | 0, d, K => rfl
 | n + 1, d, K => evL_contL.trans ((L0.r N _ K d).trans (congrArg (fun φ => L0.st N d.1.1 d.1.2.2.1 d.2.1 φ d.1.2.2.2.1 (L0.k0 d K) (L0.k1 d K)) (funext fun e0 => L0.e N n (L0.up d e0) K)))
theorem ents79_ok {α : Type} (N : Nat) : AllP (EntOk (C N) Tryd.f79 an79 (ents79 (α := α) N)) (ents79 N) := ⟨entOk_of (b0 := loopOf 4 Tryd.f79) (li0 := [1, 22, 23, 24]) (lx0 := [4]) (by kernel_rfl) (by kernel_rfl) ⟨fun d K => L0.e N N d K, trivial⟩, trivial⟩
def g {α : Type} (N : Nat) (a0 : BA × List (Int × Int) × List (Int × Int) × List (Int × Int) × Int) (a1 : Int) (kr : (Int → Option α)) : Option α :=
 cond (decide (a0.snd.snd.snd.snd < 0)) (kr (1)) (cond (decide (9 < a0.snd.snd.snd.snd)) (kr (1)) (L0.f N (a1) ((↑[a0.snd.fst, a0.snd.snd.fst, a0.snd.snd.snd.fst].length : Int)) ([a0.snd.fst, a0.snd.snd.fst, a0.snd.snd.snd.fst]) N (0) (fun x4 => kr (x4)) (kr (0))))
theorem eq (N : Nat) (a0 : BA × List (Int × Int) × List (Int × Int) × List (Int × Int) × Int) (a1 : Int) : evF (C N) 50 Tryd.f79 an79 (smL (ents79 N) 0 50) [((.int .i64 : K), false)] [⟨.st (.pr (.str) (.pr (.sl (.st (.pr (.int .i64) (.int .i64)))) (.pr (.sl (.st (.pr (.int .i64) (.int .i64)))) (.pr (.sl (.st (.pr (.int .i64) (.int .i64)))) (.int .i64))))), a0⟩, ⟨.int .i64, a1⟩] = g N a0 a1 (fun r0 => some [.dat (K.int IntKind.i64) r0]) := by kernel_rfl
theorem ctxOk (N : Nat) : CtxOk P (C N) := ctxOk_of tysOk mixedOk ⟨net_checkArcs.ok, trivial⟩ trivial
theorem calls (N : Nat) (a0 : BA × List (Int × Int) × List (Int × Int) × List (Int × Int) × Int) (a1 : Int) {rs : List Rs} (h : g N a0 a1 (fun r0 => some [.dat (K.int IntKind.i64) r0]) = some rs) : CallsTo P 79 [⟨.st (.pr (.str) (.pr (.sl (.st (.pr (.int .i64) (.int .i64)))) (.pr (.sl (.st (.pr (.int .i64) (.int .i64)))) (.pr (.sl (.st (.pr (.int .i64) (.int .i64)))) (.int .i64))))), a0⟩, ⟨.int .i64, a1⟩] rs := evF_calls' (ctxOk N) (by rfl) (ents79_ok N) ((eq N a0 a1).trans h)
def L0.l {α : Type} (N : Nat) (x0 : Int) (x3 : (List (List (Int × Int)))) (k0 : (Int → Option α)) (k1 : Option α) : List (List (Int × Int)) → Int → Option α
 | [], x2 => k1 
 | x :: l, x2 => (cond ((net_checkArcs.spec x x0) != 0) (k0 ((net_checkArcs.spec x x0))) (L0.l N x0 x3 k0 k1 l (x2 + 1)))
theorem L0.rng {α : Type} {N : Nat} (x0 : Int) (x3 : (List (List (Int × Int)))) (hl : x3.length ≤ maxLen) (k0 : (Int → Option α)) (k1 : Option α) : ∀ (n j : Nat), x3.length < n + j → j ≤ x3.length → L0.f N x0 (x3.length : Int) x3 n (j : Int) k0 k1 = L0.l N x0 x3 k0 k1 (x3.drop j) (j : Int) :=
 rng0 x3 hl (fun n i => L0.f N x0 (x3.length : Int) x3 n i k0 k1) (fun l i => L0.l N x0 x3 k0 k1 l i) (fun n j hj h ih => by simp only [L0.f, L0.st, L0.l, h.a, h.b, h.c, h.d, h.e, Bool.true_and, Bool.and_true, Bool.and_self, cond_true, ih] <;> rfl) (fun n j h => by simp only [L0.f, L0.st, L0.l, h, cond_false])
end net_checkTrans
theorem net_checkTrans.law {α : Type} {N : Nat} (hN : 18446744073709551616 ≤ N) (a0 : BA × (List (Int × Int)) × (List (Int × Int)) × (List (Int × Int)) × Int) (a1 : Int) (w0 : K.wf (.st (.pr (.str) (.pr (.sl (.st (.pr (.int .i64) (.int .i64)))) (.pr (.sl (.st (.pr (.int .i64) (.int .i64)))) (.pr (.sl (.st (.pr (.int .i64) (.int .i64)))) (.int .i64)))))) a0) (w1 : K.wf (.int .i64) a1) (kr : (Int → Option α)) : net_checkTrans.g N a0 a1 kr = kr (net_checkTrans.spec a0 a1) := by
 unfold net_checkTrans.g net_checkTrans.spec transE
 obtain ⟨nm, pre, post, inh, prio⟩ := a0
 simp only
 have h := net_checkTrans.L0.rng (N := N) a1 [pre, post, inh] (by unfold maxLen; simp) (fun x => kr x) (kr 0) N 0 (by simp only [List.length_cons, List.length_nil]; omega) (Nat.zero_le _)
 have h : net_checkTrans.L0.f N a1 (([pre, post, inh].length : Nat) : Int) [pre, post, inh] N 0 (fun x => kr x) (kr 0) = _ := h
 rw [h, List.drop_zero]
 simp only [net_checkTrans.L0.l, net_checkArcs.spec]
 have e : ∀ z : Int, (z != 0) = !(z == 0) := fun z => rfl
 rw [e, e, e]
 cases decide (prio < 0)
 ·
  cases decide (9 < prio)
  ·
   simp only [cond_false, Bool.or_self]
   cases h1 : (arcsE a1 none pre == 0)
   ·
    rfl
   ·
    cases h2 : (arcsE a1 none post == 0)
    ·
     rfl
    ·
     cases h3 : (arcsE a1 none inh == 0)
     ·
      rfl
     ·
      rw [eq_of_beq h3]
      rfl
  ·
   rfl
 ·
  rfl
theorem net_checkTrans.ok : FentOk P 79 net_checkTrans.fent := fentOk_of (by kernel_rfl) fun ds hk => by
 obtain ⟨a0, l0, rfl, h0⟩ := ds_cons hk
 obtain ⟨a1, l1, rfl, h1⟩ := ds_cons h0
 obtain rfl := ds0 h1
 exact ⟨true, [.dat (.int .i64) (net_checkTrans.spec a0 a1)], fun h hw => net_checkTrans.calls 18446744073709551616 a0 a1 (net_checkTrans.law (Nat.le_refl _) a0 a1 hw.1 hw.2.1 _), fun α k => rfl⟩
end Go.VI
namespace Go.VI
open Go Go.Proofs
namespace net_Check
def an53 : Ann := [(8, [1, 2, 4, 35, 36, 37], [1, 2, 4]), (17, [1, 2, 4, 57, 58, 59], [2])]
def an77 : Ann := [(4, [0, 1, 9, 10, 11], [0, 1, 3])]
def L0.sh : Sh := { sl := [(0, SV.a (SA.d K.str)), (1, SV.a (SA.fx (Atom.box 2 0))), (9, SV.a (SA.fx (Atom.sl 3 0 none))), (10, SV.a (SA.d (K.int IntKind.i64))), (11, SV.a (SA.d (K.int IntKind.i64)))], os := [(4, SO.box [SA.d K.str, SA.d (K.int IntKind.i64), SA.d (K.int IntKind.i64)]), (0, SO.box [SA.d K.str, SA.d (K.str.pr ((K.int IntKind.i64).pr (K.int IntKind.i64))).st.sl, SA.d (K.str.pr (((K.int IntKind.i64).pr (K.int IntKind.i64)).st.sl.pr (((K.int IntKind.i64).pr (K.int IntKind.i64)).st.sl.pr (((K.int IntKind.i64).pr (K.int IntKind.i64)).st.sl.pr (K.int IntKind.i64))))).st.sl]), (1, SO.box [SA.d (K.int IntKind.i64), SA.d (K.int IntKind.i64)]), (2, SO.box [SA.fx (Atom.sl 3 0 none)]), (3, SO.row K.str 0)], nx := 5 }
def L0.x0 : Sh := { sl := [(0, SV.a (SA.d K.str)), (1, SV.a (SA.fx (Atom.box 2 0))), (3, SV.a (SA.d (K.int IntKind.i64)))], os := [(4, SO.box [SA.d K.str, SA.d (K.int IntKind.i64), SA.d (K.int IntKind.i64)]), (0, SO.box [SA.d K.str, SA.d (K.str.pr ((K.int IntKind.i64).pr (K.int IntKind.i64))).st.sl, SA.d (K.str.pr (((K.int IntKind.i64).pr (K.int IntKind.i64)).st.sl.pr (((K.int IntKind.i64).pr (K.int IntKind.i64)).st.sl.pr (((K.int IntKind.i64).pr (K.int IntKind.i64)).st.sl.pr (K.int IntKind.i64))))).st.sl]), (1, SO.box [SA.d (K.int IntKind.i64), SA.d (K.int IntKind.i64)]), (2, SO.box [SA.fx (Atom.sl 3 0 none)]), (3, SO.row K.str 0)], nx := 5 }
def L0.x1 : Sh := { sl := [(0, SV.a (SA.d K.str)), (1, SV.a (SA.fx (Atom.box 2 0))), (3, SV.j)], os := [(4, SO.box [SA.d K.str, SA.d (K.int IntKind.i64), SA.d (K.int IntKind.i64)]), (0, SO.box [SA.d K.str, SA.d (K.str.pr ((K.int IntKind.i64).pr (K.int IntKind.i64))).st.sl, SA.d (K.str.pr (((K.int IntKind.i64).pr (K.int IntKind.i64)).st.sl.pr (((K.int IntKind.i64).pr (K.int IntKind.i64)).st.sl.pr (((K.int IntKind.i64).pr (K.int IntKind.i64)).st.sl.pr (K.int IntKind.i64))))).st.sl]), (1, SO.box [SA.d (K.int IntKind.i64), SA.d (K.int IntKind.i64)]), (2, SO.box [SA.fx (Atom.sl 3 0 none)]), (3, SO.row K.str 0)], nx := 5 }
def L0.st {α : Type} (N : Nat) (x9 : BA) (x10 : Int) (x20 : (List BA)) (φ : (Int → Option α)) (x11 : Int) (k0 : (Int → Option α)) (k1 : Option α) : Option α :=
 cond (decide (x11 < x10)) (cond (decide (0 ≤ x11) && decide (x11 < (↑x20.length : Int))) (cond (sEq (x20.getD (0 + x11.toNat) eBA) x9) (k0 (6)) (φ (IntKind.i64.wrap (x11 + 1)))) (none)) (k1 )
def L0.f {α : Type} (N : Nat) (c0 : BA) (c1 : Int) (c10 : (List BA)) : Nat → Int → (Int → Option α) → Option α → Option α
 | 0, _, _, _ => none
 | n + 1, d0, k0, k1 => L0.st N c0 c1 c10 (fun e0 => L0.f N c0 c1 c10 n e0 k0 k1) d0 k0 k1
def L0.up (d : L0.sh.T) (e0 : Int) : L0.sh.T := ((d.1.1, ((), ((), (d.1.2.2.2.1, (e0, ()))))), ((d.2.1.1, (d.2.1.2.1, (d.2.1.2.2.1, ()))), ((d.2.2.1.1, (d.2.2.1.2.1, (d.2.2.1.2.2.1, ()))), ((d.2.2.2.1.1, (d.2.2.2.1.2.1, ())), (((), ()), (d.2.2.2.2.2.1, ()))))))
def L0.k0 {α : Type} (d : L0.sh.T) (K : Cont α) : (Int → Option α) := fun y0 => K (Exit.ret) (L0.x0.enc ((d.1.1, ((), (y0, ()))), ((d.2.1.1, (d.2.1.2.1, (d.2.1.2.2.1, ()))), ((d.2.2.1.1, (d.2.2.1.2.1, (d.2.2.1.2.2.1, ()))), ((d.2.2.2.1.1, (d.2.2.2.1.2.1, ())), (((), ()), (d.2.2.2.2.2.1, ())))))))
def L0.k1 {α : Type} (d : L0.sh.T) (K : Cont α) : Option α := K (Exit.exit 0) (L0.x1.enc ((d.1.1, ((), ((), ()))), ((d.2.1.1, (d.2.1.2.1, (d.2.1.2.2.1, ()))), ((d.2.2.1.1, (d.2.2.1.2.1, (d.2.2.1.2.2.1, ()))), ((d.2.2.2.1.1, (d.2.2.2.1.2.1, ())), (((), ()), (d.2.2.2.2.2.1, ())))))))
def L0.F {α : Type} (N : Nat) (d : L0.sh.T) (K : Cont α) : Option α := L0.f N d.1.1 d.1.2.2.2.1 d.2.2.2.2.2.1 N d.1.2.2.2.2.1 (L0.k0 d K) (L0.k1 d K)
def L1.sh : Sh := { sl := [(1, SV.a (SA.fx (Atom.box 0 0))), (2, SV.a (SA.fx (Atom.box 1 0))), (4, SV.a (SA.fx (Atom.fn 77 [2]))), (35, SV.a (SA.d (K.str.pr ((K.int IntKind.i64).pr (K.int IntKind.i64))).st.sl)), (36, SV.a (SA.d (K.int IntKind.i64))), (37, SV.a (SA.d (K.int IntKind.i64)))], os := [(0, SO.box [SA.d K.str, SA.d (K.str.pr ((K.int IntKind.i64).pr (K.int IntKind.i64))).st.sl, SA.d (K.str.pr (((K.int IntKind.i64).pr (K.int IntKind.i64)).st.sl.pr (((K.int IntKind.i64).pr (K.int IntKind.i64)).st.sl.pr (((K.int IntKind.i64).pr (K.int IntKind.i64)).st.sl.pr (K.int IntKind.i64))))).st.sl]), (1, SO.box [SA.d (K.int IntKind.i64), SA.d (K.int IntKind.i64)]), (2, SO.box [SA.fx (Atom.sl 3 0 none)]), (3, SO.row K.str 0)], nx := 4 }
def L1.x0 : Sh := { sl := [(1, SV.a (SA.fx (Atom.box 0 0))), (2, SV.a (SA.fx (Atom.box 1 0))), (4, SV.a (SA.fx (Atom.fn 77 [2])))], os := [(0, SO.box [SA.d K.str, SA.d (K.str.pr ((K.int IntKind.i64).pr (K.int IntKind.i64))).st.sl, SA.d (K.str.pr (((K.int IntKind.i64).pr (K.int IntKind.i64)).st.sl.pr (((K.int IntKind.i64).pr (K.int IntKind.i64)).st.sl.pr (((K.int IntKind.i64).pr (K.int IntKind.i64)).st.sl.pr (K.int IntKind.i64))))).st.sl]), (1, SO.box [SA.d (K.int IntKind.i64), SA.d (K.int IntKind.i64)]), (2, SO.box [SA.fx (Atom.sl 3 0 none)]), (3, SO.row K.str 0)], nx := 4 }
def L1.x1 : Sh := { sl := [(1, SV.a (SA.fx (Atom.box 0 0))), (2, SV.a (SA.fx (Atom.box 1 0))), (4, SV.a (SA.fx (Atom.fn 77 [2])))], os := [(0, SO.box [SA.d K.str, SA.d (K.str.pr ((K.int IntKind.i64).pr (K.int IntKind.i64))).st.sl, SA.d (K.str.pr (((K.int IntKind.i64).pr (K.int IntKind.i64)).st.sl.pr (((K.int IntKind.i64).pr (K.int IntKind.i64)).st.sl.pr (((K.int IntKind.i64).pr (K.int IntKind.i64)).st.sl.pr (K.int IntKind.i64))))).st.sl]), (1, SO.box [SA.d (K.int IntKind.i64), SA.d (K.int IntKind.i64)]), (2, SO.box [SA.fx (Atom.sl 3 0 none)]), (3, SO.row K.str 0)], nx := 4 }
def L1.st {α : Type} (N : Nat) (x0 : (List (BA × Int × Int))) (x1 : Int) (φ : (Int → (List BA) → Option α)) (x2 : Int) (x8 : (List BA)) (k0 : (Int → Int → (List BA) → Option α)) (k1 : ((List BA) → Option α)) : Option α :=
 cond (decide (x2 < x1)) (cond (decide (0 ≤ x2) && decide (x2 < (↑x0.length : Int))) (cond (!(net_Name.spec (x0.getD x2.toNat (eBA, 0, 0)).fst)) (k0 (5) (x2) (x8)) (L0.f N ((x0.getD x2.toNat (eBA, 0, 0)).fst) ((↑x8.length : Int)) (x8) N (0) (fun x21 => cond (x21 == 0) (cond ((net_checkPlace.spec (x0.getD x2.toNat (eBA, 0, 0))) != 0) (k0 ((net_checkPlace.spec (x0.getD x2.toNat (eBA, 0, 0)))) (x2) (x8)) (φ (IntKind.i64.wrap (x2 + 1)) (x8))) (cond (x21 != 0) (k0 (x21) (x2) (x8)) (φ (IntKind.i64.wrap (x2 + 1)) (x8)))) (cond ((x8.length + 1).ble mxl) (cond ((net_checkPlace.spec (x0.getD x2.toNat (eBA, 0, 0))) != 0) (k0 ((net_checkPlace.spec (x0.getD x2.toNat (eBA, 0, 0)))) (x2) (x8 ++ [(x0.getD x2.toNat (eBA, 0, 0)).fst])) (φ (IntKind.i64.wrap (x2 + 1)) (x8 ++ [(x0.getD x2.toNat (eBA, 0, 0)).fst]))) (none)))) (none)) (k1 (x8))
def L1.f {α : Type} (N : Nat) (c0 : (List (BA × Int × Int))) (c1 : Int) : Nat → Int → (List BA) → (Int → Int → (List BA) → Option α) → ((List BA) → Option α) → Option α
 | 0, _, _, _, _ => none
 | n + 1, d0, d1, k0, k1 => L1.st N c0 c1 (fun e0 e1 => L1.f N c0 c1 n e0 e1 k0 k1) d0 d1 k0 k1
def L1.up (d : L1.sh.T) (e0 : Int) (e1 : (List BA)) : L1.sh.T := (((), ((), ((), (d.1.2.2.2.1, (d.1.2.2.2.2.1, (e0, ())))))), ((d.2.1.1, (d.2.1.2.1, (d.2.1.2.2.1, ()))), ((d.2.2.1.1, (d.2.2.1.2.1, ())), (((), ()), (e1, ())))))
def L1.k0 {α : Type} (d : L1.sh.T) (K : Cont α) : (Int → Int → (List BA) → Option α) := fun y0 y1 y2 => K (Exit.ret) (L1.x0.enc (((), ((), ((), ()))), ((d.2.1.1, (d.2.1.2.1, (d.2.1.2.2.1, ()))), ((y0, (y1, ())), (((), ()), (y2, ()))))))
def L1.k1 {α : Type} (d : L1.sh.T) (K : Cont α) : ((List BA) → Option α) := fun y0 => K (Exit.exit 0) (L1.x1.enc (((), ((), ((), ()))), ((d.2.1.1, (d.2.1.2.1, (d.2.1.2.2.1, ()))), ((d.2.2.1.1, (d.2.2.1.2.1, ())), (((), ()), (y0, ()))))))
def L1.F {α : Type} (N : Nat) (d : L1.sh.T) (K : Cont α) : Option α := L1.f N d.1.2.2.2.1 d.1.2.2.2.2.1 N d.1.2.2.2.2.2.1 d.2.2.2.2.1 (L1.k0 d K) (L1.k1 d K)
def L2.sh : Sh := { sl := [(0, SV.a (SA.d K.str)), (1, SV.a (SA.fx (Atom.box 2 0))), (9, SV.a (SA.fx (Atom.sl 3 0 none))), (10, SV.a (SA.d (K.int IntKind.i64))), (11, SV.a (SA.d (K.int IntKind.i64)))], os := [(4, SO.box [SA.d K.str, SA.d ((K.int IntKind.i64).pr (K.int IntKind.i64)).st.sl, SA.d ((K.int IntKind.i64).pr (K.int IntKind.i64)).st.sl, SA.d ((K.int IntKind.i64).pr (K.int IntKind.i64)).st.sl, SA.d (K.int IntKind.i64)]), (0, SO.box [SA.d K.str, SA.d (K.str.pr ((K.int IntKind.i64).pr (K.int IntKind.i64))).st.sl, SA.d (K.str.pr (((K.int IntKind.i64).pr (K.int IntKind.i64)).st.sl.pr (((K.int IntKind.i64).pr (K.int IntKind.i64)).st.sl.pr (((K.int IntKind.i64).pr (K.int IntKind.i64)).st.sl.pr (K.int IntKind.i64))))).st.sl]), (1, SO.box [SA.d (K.int IntKind.i64), SA.d (K.int IntKind.i64)]), (2, SO.box [SA.fx (Atom.sl 3 0 none)]), (3, SO.row K.str 0)], nx := 5 }
def L2.x0 : Sh := { sl := [(0, SV.a (SA.d K.str)), (1, SV.a (SA.fx (Atom.box 2 0))), (3, SV.a (SA.d (K.int IntKind.i64)))], os := [(4, SO.box [SA.d K.str, SA.d ((K.int IntKind.i64).pr (K.int IntKind.i64)).st.sl, SA.d ((K.int IntKind.i64).pr (K.int IntKind.i64)).st.sl, SA.d ((K.int IntKind.i64).pr (K.int IntKind.i64)).st.sl, SA.d (K.int IntKind.i64)]), (0, SO.box [SA.d K.str, SA.d (K.str.pr ((K.int IntKind.i64).pr (K.int IntKind.i64))).st.sl, SA.d (K.str.pr (((K.int IntKind.i64).pr (K.int IntKind.i64)).st.sl.pr (((K.int IntKind.i64).pr (K.int IntKind.i64)).st.sl.pr (((K.int IntKind.i64).pr (K.int IntKind.i64)).st.sl.pr (K.int IntKind.i64))))).st.sl]), (1, SO.box [SA.d (K.int IntKind.i64), SA.d (K.int IntKind.i64)]), (2, SO.box [SA.fx (Atom.sl 3 0 none)]), (3, SO.row K.str 0)], nx := 5 }
def L2.x1 : Sh := { sl := [(0, SV.a (SA.d K.str)), (1, SV.a (SA.fx (Atom.box 2 0))), (3, SV.j)], os := [(4, SO.box [SA.d K.str, SA.d ((K.int IntKind.i64).pr (K.int IntKind.i64)).st.sl, SA.d ((K.int IntKind.i64).pr (K.int IntKind.i64)).st.sl, SA.d ((K.int IntKind.i64).pr (K.int IntKind.i64)).st.sl, SA.d (K.int IntKind.i64)]), (0, SO.box [SA.d K.str, SA.d (K.str.pr ((K.int IntKind.i64).pr (K.int IntKind.i64))).st.sl, SA.d (K.str.pr (((K.int IntKind.i64).pr (K.int IntKind.i64)).st.sl.pr (((K.int IntKind.i64).pr (K.int IntKind.i64)).st.sl.pr (((K.int IntKind.i64).pr (K.int IntKind.i64)).st.sl.pr (K.int IntKind.i64))))).st.sl]), (1, SO.box [SA.d (K.int IntKind.i64), SA.d (K.int IntKind.i64)]), (2, SO.box [SA.fx (Atom.sl 3 0 none)]), (3, SO.row K.str 0)], nx := 5 }
def L2.st {α : Type} (N : Nat) (x35 : BA) (x36 : Int) (x48 : (List BA)) (φ : (Int → Option α)) (x37 : Int) (k0 : (Int → Option α)) (k1 : Option α) : Option α :=
 cond (decide (x37 < x36)) (cond (decide (0 ≤ x37) && decide (x37 < (↑x48.length : Int))) (cond (sEq (x48.getD (0 + x37.toNat) eBA) x35) (k0 (6)) (φ (IntKind.i64.wrap (x37 + 1)))) (none)) (k1 )
def L2.f {α : Type} (N : Nat) (c0 : BA) (c1 : Int) (c12 : (List BA)) : Nat → Int → (Int → Option α) → Option α → Option α
 | 0, _, _, _ => none
 | n + 1, d0, k0, k1 => L2.st N c0 c1 c12 (fun e0 => L2.f N c0 c1 c12 n e0 k0 k1) d0 k0 k1
def L2.up (d : L2.sh.T) (e0 : Int) : L2.sh.T := ((d.1.1, ((), ((), (d.1.2.2.2.1, (e0, ()))))), ((d.2.1.1, (d.2.1.2.1, (d.2.1.2.2.1, (d.2.1.2.2.2.1, (d.2.1.2.2.2.2.1, ()))))), ((d.2.2.1.1, (d.2.2.1.2.1, (d.2.2.1.2.2.1, ()))), ((d.2.2.2.1.1, (d.2.2.2.1.2.1, ())), (((), ()), (d.2.2.2.2.2.1, ()))))))
def L2.k0 {α : Type} (d : L2.sh.T) (K : Cont α) : (Int → Option α) := fun y0 => K (Exit.ret) (L2.x0.enc ((d.1.1, ((), (y0, ()))), ((d.2.1.1, (d.2.1.2.1, (d.2.1.2.2.1, (d.2.1.2.2.2.1, (d.2.1.2.2.2.2.1, ()))))), ((d.2.2.1.1, (d.2.2.1.2.1, (d.2.2.1.2.2.1, ()))), ((d.2.2.2.1.1, (d.2.2.2.1.2.1, ())), (((), ()), (d.2.2.2.2.2.1, ())))))))
def L2.k1 {α : Type} (d : L2.sh.T) (K : Cont α) : Option α := K (Exit.exit 0) (L2.x1.enc ((d.1.1, ((), ((), ()))), ((d.2.1.1, (d.2.1.2.1, (d.2.1.2.2.1, (d.2.1.2.2.2.1, (d.2.1.2.2.2.2.1, ()))))), ((d.2.2.1.1, (d.2.2.1.2.1, (d.2.2.1.2.2.1, ()))), ((d.2.2.2.1.1, (d.2.2.2.1.2.1, ())), (((), ()), (d.2.2.2.2.2.1, ())))))))
def L2.F {α : Type} (N : Nat) (d : L2.sh.T) (K : Cont α) : Option α := L2.f N d.1.1 d.1.2.2.2.1 d.2.2.2.2.2.1 N d.1.2.2.2.2.1 (L2.k0 d K) (L2.k1 d K)
def L3.sh : Sh := { sl := [(1, SV.a (SA.fx (Atom.box 0 0))), (2, SV.a (SA.fx (Atom.box 1 0))), (4, SV.a (SA.fx (Atom.fn 77 [2]))), (57, SV.a (SA.d (K.str.pr (((K.int IntKind.i64).pr (K.int IntKind.i64)).st.sl.pr (((K.int IntKind.i64).pr (K.int IntKind.i64)).st.sl.pr (((K.int IntKind.i64).pr (K.int IntKind.i64)).st.sl.pr (K.int IntKind.i64))))).st.sl)), (58, SV.a (SA.d (K.int IntKind.i64))), (59, SV.a (SA.d (K.int IntKind.i64)))], os := [(0, SO.box [SA.d K.str, SA.d (K.str.pr ((K.int IntKind.i64).pr (K.int IntKind.i64))).st.sl, SA.d (K.str.pr (((K.int IntKind.i64).pr (K.int IntKind.i64)).st.sl.pr (((K.int IntKind.i64).pr (K.int IntKind.i64)).st.sl.pr (((K.int IntKind.i64).pr (K.int IntKind.i64)).st.sl.pr (K.int IntKind.i64))))).st.sl]), (1, SO.box [SA.d (K.int IntKind.i64), SA.d (K.int IntKind.i64)]), (2, SO.box [SA.fx (Atom.sl 3 0 none)]), (3, SO.row K.str 0)], nx := 4 }
def L3.x0 : Sh := { sl := [(2, SV.a (SA.fx (Atom.box 0 0)))], os := [(0, SO.box [SA.d (K.int IntKind.i64), SA.d (K.int IntKind.i64)])], nx := 1 }
def L3.x1 : Sh := { sl := [(2, SV.a (SA.fx (Atom.box 0 0)))], os := [(0, SO.box [SA.d (K.int IntKind.i64), SA.d (K.int IntKind.i64)])], nx := 1 }
def L3.st {α : Type} (N : Nat) (x26 : (List (BA × List (Int × Int) × List (Int × Int) × List (Int × Int) × Int))) (x27 : Int) (x30 : (List (BA × Int × Int))) (φ : (Int → (List BA) → Option α)) (x28 : Int) (x34 : (List BA)) (k0 : (Int → Int → Option α)) (k1 : Option α) : Option α :=
 cond (decide (x28 < x27)) (cond (decide (0 ≤ x28) && decide (x28 < (↑x26.length : Int))) (cond (!(net_Name.spec (x26.getD x28.toNat (eBA, [], [], [], 0)).fst)) (k0 (5) (IntKind.i64.wrap ((↑x30.length : Int) + x28))) (L2.f N ((x26.getD x28.toNat (eBA, [], [], [], 0)).fst) ((↑x34.length : Int)) (x34) N (0) (fun x49 => cond (x49 == 0) (lt (net_checkTrans.spec (x26.getD x28.toNat (eBA, [], [], [], 0)) (↑x30.length : Int)) fun v5 => cond (v5 != 0) (k0 (v5) (IntKind.i64.wrap ((↑x30.length : Int) + x28))) (φ (IntKind.i64.wrap (x28 + 1)) (x34))) (cond (x49 != 0) (k0 (x49) (IntKind.i64.wrap ((↑x30.length : Int) + x28))) (φ (IntKind.i64.wrap (x28 + 1)) (x34)))) (cond ((x34.length + 1).ble mxl) (lt (net_checkTrans.spec (x26.getD x28.toNat (eBA, [], [], [], 0)) (↑x30.length : Int)) fun v6 => cond (v6 != 0) (k0 (v6) (IntKind.i64.wrap ((↑x30.length : Int) + x28))) (φ (IntKind.i64.wrap (x28 + 1)) (x34 ++ [(x26.getD x28.toNat (eBA, [], [], [], 0)).fst]))) (none)))) (none)) (k1 )
def L3.f {α : Type} (N : Nat) (c0 : (List (BA × List (Int × Int) × List (Int × Int) × List (Int × Int) × Int))) (c1 : Int) (c3 : (List (BA × Int × Int))) : Nat → Int → (List BA) → (Int → Int → Option α) → Option α → Option α
 | 0, _, _, _, _ => none
 | n + 1, d0, d1, k0, k1 => L3.st N c0 c1 c3 (fun e0 e1 => L3.f N c0 c1 c3 n e0 e1 k0 k1) d0 d1 k0 k1
def L3.up (d : L3.sh.T) (e0 : Int) (e1 : (List BA)) : L3.sh.T := (((), ((), ((), (d.1.2.2.2.1, (d.1.2.2.2.2.1, (e0, ())))))), ((d.2.1.1, (d.2.1.2.1, (d.2.1.2.2.1, ()))), ((d.2.2.1.1, (d.2.2.1.2.1, ())), (((), ()), (e1, ())))))
def L3.k0 {α : Type} (d : L3.sh.T) (K : Cont α) : (Int → Int → Option α) := fun y0 y1 => K (Exit.ret) (L3.x0.enc (((), ()), ((y0, (y1, ())), ())))
def L3.k1 {α : Type} (d : L3.sh.T) (K : Cont α) : Option α := K (Exit.exit 2) (L3.x1.enc (((), ()), ((d.2.2.1.1, (d.2.2.1.2.1, ())), ())))
def L3.F {α : Type} (N : Nat) (d : L3.sh.T) (K : Cont α) : Option α := L3.f N d.1.2.2.2.1 d.1.2.2.2.2.1 d.2.1.2.1 N d.1.2.2.2.2.2.1 d.2.2.2.2.1 (L3.k0 d K) (L3.k1 d K)
def ents53 {α : Type} (N : Nat) : List (SmE α) := [⟨0, 50, 8, [⟨L1.sh, L1.F N⟩]⟩, ⟨0, 50, 17, [⟨L3.sh, L3.F N⟩]⟩]
def ents77 {α : Type} (N : Nat) : List (SmE α) := [⟨5, 49, 4, [⟨L0.sh, L0.F N⟩, ⟨L2.sh, L2.F N⟩]⟩]
def C (N : Nat) : Ctx := ⟨tys, [(76, net_Name.fent), (78, net_checkPlace.fent), (79, net_checkTrans.fent)], [(77, ⟨Tryd.f77, an77, fun α lo d r => smL (ents77 N) lo d r⟩)], N⟩
def L0.B {α : Type} (N : Nat) : Env → Cont α → Option α := evC tys 23 5 (evCall (C N) 49) (evCallQ (C N)) N an77 (smL (ents77 N) 5 49) (loopOf 4 Tryd.f77)
theorem L0.r {α : Type} (N : Nat) (φ : Env → Option α) (K : Cont α) (d : L0.sh.T) : L0.B N (L0.sh.enc d) (contL φ K (Env.norm 5 [0, 1, 9, 10, 11]) (Env.norm 5 [0, 1, 3])) = L0.st N d.1.1 d.1.2.2.2.1 d.2.2.2.2.2.1 (fun e0 => φ (L0.sh.enc (L0.up d e0))) d.1.2.2.2.2.1 (L0.k0 d K) (L0.k1 d K) := by kernel_rfl
theorem L0.e {α : Type} (N : Nat) : ∀ (n : Nat) (d : L0.sh.T) (K : Cont α), evL (L0.B N) (Env.norm 5 [0, 1, 9, 10, 11]) (Env.norm 5 [0, 1, 3]) n (L0.sh.enc d) K = L0.f N d.1.1 d.1.2.2.2.1 d.2.2.2.2.2.1 n d.1.2.2.2.2.1 (L0.k0 d K) (L0.k1 d K)
 | 0, d, K => rfl
 | n + 1, d, K => evL_contL.trans ((L0.r N _ K d).trans (congrArg (fun φ => L0.st N d.1.1 d.1.2.2.2.1 d.2.2.2.2.2.1 φ d.1.2.2.2.2.1 (L0.k0 d K) (L0.k1 d K)) (funext fun e0 => L0.e N n (L0.up d e0) K)))
def L1.B {α : Type} (N : Nat) : Env → Cont α → Option α := evC tys 86 0 (evCall (C N) 50) (evCallQ (C N)) N an53 (smL (ents53 N) 0 50) (loopOf 8 Tryd.f53)
theorem L1.r {α : Type} (N : Nat) (φ : Env → Option α) (K : Cont α) (d : L1.sh.T) : L1.B N (L1.sh.enc d) (contL φ K (Env.norm 0 [1, 2, 4, 35, 36, 37]) (Env.norm 0 [1, 2, 4])) = L1.st N d.1.2.2.2.1 d.1.2.2.2.2.1 (fun e0 e1 => φ (L1.sh.enc (L1.up d e0 e1))) d.1.2.2.2.2.2.1 d.2.2.2.2.1 (L1.k0 d K) (L1.k1 d K) := by kernel_rfl
theorem L1.e {α : Type} (N : Nat) : ∀ (n : Nat) (d : L1.sh.T) (K : Cont α), evL (L1.B N) (Env.norm 0 [1, 2, 4, 35, 36, 37]) (Env.norm 0 [1, 2, 4]) n (L1.sh.enc d) K = L1.f N d.1.2.2.2.1 d.1.2.2.2.2.1 n d.1.2.2.2.2.2.1 d.2.2.2.2.1 (L1.k0 d K) (L1.k1 d K)
 | 0, d, K => rfl
 | n + 1, d, K => evL_contL.trans ((L1.r N _ K d).trans (congrArg (fun φ => L1.st N d.1.2.2.2.1 d.1.2.2.2.2.1 φ d.1.2.2.2.2.2.1 d.2.2.2.2.1 (L1.k0 d K) (L1.k1 d K)) (funext fun e0 => funext fun e1 => L1.e N n (L1.up d e0 e1) K)))
def L2.B {α : Type} (N : Nat) : Env → Cont α → Option α := evC tys 23 5 (evCall (C N) 49) (evCallQ (C N)) N an77 (smL (ents77 N) 5 49) (loopOf 4 Tryd.f77)
theorem L2.r {α : Type} (N : Nat) (φ : Env → Option α) (K : Cont α) (d : L2.sh.T) : L2.B N (L2.sh.enc d) (contL φ K (Env.norm 5 [0, 1, 9, 10, 11]) (Env.norm 5 [0, 1, 3])) = L2.st N d.1.1 d.1.2.2.2.1 d.2.2.2.2.2.1 (fun e0 => φ (L2.sh.enc (L2.up d e0))) d.1.2.2.2.2.1 (L2.k0 d K) (L2.k1 d K) := by kernel_rfl
theorem L2.e {α : Type} (N : Nat) : ∀ (n : Nat) (d : L2.sh.T) (K : Cont α), evL (L2.B N) (Env.norm 5 [0, 1, 9, 10, 11]) (Env.norm 5 [0, 1, 3]) n (L2.sh.enc d) K = L2.f N d.1.1 d.1.2.2.2.1 d.2.2.2.2.2.1 n d.1.2.2.2.2.1 (L2.k0 d K) (L2.k1 d K)
 | 0, d, K => rfl
 | n + 1, d, K => evL_contL.trans ((L2.r N _ K d).trans (congrArg (fun φ => L2.st N d.1.1 d.1.2.2.2.1 d.2.2.2.2.2.1 φ d.1.2.2.2.2.1 (L2.k0 d K) (L2.k1 d K)) (funext fun e0 => L2.e N n (L2.up d e0) K)))
def L3.B {α : Type} (N : Nat) : Env → Cont α → Option α := evC tys 86 0 (evCall (C N) 50) (evCallQ (C N)) N an53 (smL (ents53 N) 0 50) (loopOf 17 Tryd.f53)
theorem L3.r {α : Type} (N : Nat) (φ : Env → Option α) (K : Cont α) (d : L3.sh.T) : L3.B N (L3.sh.enc d) (contL φ K (Env.norm 0 [1, 2, 4, 57, 58, 59]) (Env.norm 0 [2])) = L3.st N d.1.2.2.2.1 d.1.2.2.2.2.1 d.2.1.2.1 (fun e0 e1 => φ (L3.sh.enc (L3.up d e0 e1))) d.1.2.2.2.2.2.1 d.2.2.2.2.1 (L3.k0 d K) (L3.k1 d K) := by kernel_rfl
theorem L3.e {α : Type} (N : Nat) : ∀ (n : Nat) (d : L3.sh.T) (K : Cont α), evL (L3.B N) (Env.norm 0 [1, 2, 4, 57, 58, 59]) (Env.norm 0 [2]) n (L3.sh.enc d) K = L3.f N d.1.2.2.2.1 d.1.2.2.2.2.1 d.2.1.2.1 n d.1.2.2.2.2.2.1 d.2.2.2.2.1 (L3.k0 d K) (L3.k1 d K)
 | 0, d, K => rfl
 | n + 1, d, K => evL_contL.trans ((L3.r N _ K d).trans (congrArg (fun φ => L3.st N d.1.2.2.2.1 d.1.2.2.2.2.1 d.2.1.2.1 φ d.1.2.2.2.2.2.1 d.2.2.2.2.1 (L3.k0 d K) (L3.k1 d K)) (funext fun e0 => funext fun e1 => L3.e N n (L3.up d e0 e1) K)))
theorem ents53_ok {α : Type} (N : Nat) : AllP (EntOk (C N) Tryd.f53 an53 (ents53 (α := α) N)) (ents53 N) := ⟨entOk_of (b0 := loopOf 8 Tryd.f53) (li0 := [1, 2, 4, 35, 36, 37]) (lx0 := [1, 2, 4]) (by kernel_rfl) (by kernel_rfl) ⟨fun d K => L1.e N N d K, trivial⟩, entOk_of (b0 := loopOf 17 Tryd.f53) (li0 := [1, 2, 4, 57, 58, 59]) (lx0 := [2]) (by kernel_rfl) (by kernel_rfl) ⟨fun d K => L3.e N N d K, trivial⟩, trivial⟩
theorem ents77_ok {α : Type} (N : Nat) : AllP (EntOk (C N) Tryd.f77 an77 (ents77 (α := α) N)) (ents77 N) := ⟨entOk_of (b0 := loopOf 4 Tryd.f77) (li0 := [0, 1, 9, 10, 11]) (lx0 := [0, 1, 3]) (by kernel_rfl) (by kernel_rfl) ⟨fun d K => L0.e N N d K, fun d K => L2.e N N d K, trivial⟩, trivial⟩
def g {α : Type} (N : Nat) (a0 : BA × List (BA × Int × Int) × List (BA × List (Int × Int) × List (Int × Int) × List (Int × Int) × Int)) (kr : ((Int × Int) → Option α)) : Option α :=
 cond (!(net_Name.spec a0.fst)) (kr ((5, 0))) (cond (decide ((↑(List.length a0.snd.fst) : Int) < 1)) (kr ((2, 0))) (cond (decide (24 < (↑(List.length a0.snd.fst) : Int))) (kr ((2, 0))) (cond (decide (24 < (↑(List.length a0.snd.snd) : Int))) (kr ((2, 0))) (L1.f N (a0.snd.fst) ((↑(List.length a0.snd.fst) : Int)) N (0) ([]) (fun x22 x23 x24 => kr ((x22, x23))) (fun x25 => L3.f N (a0.snd.snd) ((↑(List.length a0.snd.snd) : Int)) (a0.snd.fst) N (0) (x25) (fun x50 x51 => kr ((x50, x51))) (kr (((0 : Int), (0 : Int)))))))))
theorem eq (N : Nat) (a0 : BA × List (BA × Int × Int) × List (BA × List (Int × Int) × List (Int × Int) × List (Int × Int) × Int)) : evF (C N) 50 Tryd.f53 an53 (smL (ents53 N) 0 50) [((.st (.pr (.int .i64) (.int .i64)) : K), false)] [⟨.st (.pr (.str) (.pr (.sl (.st (.pr (.str) (.pr (.int .i64) (.int .i64))))) (.sl (.st (.pr (.str) (.pr (.sl (.st (.pr (.int .i64) (.int .i64)))) (.pr (.sl (.st (.pr (.int .i64) (.int .i64)))) (.pr (.sl (.st (.pr (.int .i64) (.int .i64)))) (.int .i64))))))))), a0⟩] = g N a0 (fun r0 => some [.dat (((K.int IntKind.i64).pr (K.int IntKind.i64)).st) r0]) := by kernel_rfl
theorem ctxOk (N : Nat) : CtxOk P (C N) := ctxOk_of tysOk mixedOk ⟨net_Name.ok, net_checkPlace.ok, net_checkTrans.ok, trivial⟩ ⟨⟨⟨by rfl, by kernel_rfl⟩, fun α lo d c hc => smL_ok (ents77_ok N) lo d hc⟩, trivial⟩
theorem calls (N : Nat) (a0 : BA × List (BA × Int × Int) × List (BA × List (Int × Int) × List (Int × Int) × List (Int × Int) × Int)) {rs : List Rs} (h : g N a0 (fun r0 => some [.dat (((K.int IntKind.i64).pr (K.int IntKind.i64)).st) r0]) = some rs) : CallsTo P 53 [⟨.st (.pr (.str) (.pr (.sl (.st (.pr (.str) (.pr (.int .i64) (.int .i64))))) (.sl (.st (.pr (.str) (.pr (.sl (.st (.pr (.int .i64) (.int .i64)))) (.pr (.sl (.st (.pr (.int .i64) (.int .i64)))) (.pr (.sl (.st (.pr (.int .i64) (.int .i64)))) (.int .i64))))))))), a0⟩] rs := evF_calls' (ctxOk N) (by rfl) (ents53_ok N) ((eq N a0).trans h)
def L0.l {α : Type} (N : Nat) (x9 : BA) (x20 : (List BA)) (k0 : (Int → Option α)) (k1 : Option α) : List BA → Int → Option α
 | [], x11 => k1 
 | x :: l, x11 => (cond (sEq x x9) (k0 (6)) (L0.l N x9 x20 k0 k1 l (x11 + 1)))
theorem L0.rng {α : Type} {N : Nat} (x9 : BA) (x20 : (List BA)) (hl : x20.length ≤ maxLen) (k0 : (Int → Option α)) (k1 : Option α) : ∀ (n j : Nat), x20.length < n + j → j ≤ x20.length → L0.f N x9 (x20.length : Int) x20 n (j : Int) k0 k1 = L0.l N x9 x20 k0 k1 (x20.drop j) (j : Int) :=
 rng0 x20 hl (fun n i => L0.f N x9 (x20.length : Int) x20 n i k0 k1) (fun l i => L0.l N x9 x20 k0 k1 l i) (fun n j hj h ih => by simp only [L0.f, L0.st, L0.l, h.a, h.b, h.c, h.d, h.e, Bool.true_and, Bool.and_true, Bool.and_self, cond_true, ih] <;> rfl) (fun n j h => by simp only [L0.f, L0.st, L0.l, h, cond_false])
def L1.l {α : Type} (N : Nat) (x0 : (List (BA × Int × Int))) (k0 : (Int → Int → (List BA) → Option α)) (k1 : ((List BA) → Option α)) : List (BA × Int × Int) → Int → (List BA) → Option α
 | [], x2, x8 => k1 (x8)
 | x :: l, x2, x8 => (cond (!(net_Name.spec x.fst)) (k0 (5) (x2) (x8)) (L0.f N (x.fst) ((↑x8.length : Int)) (x8) N (0) (fun x21 => cond (x21 == 0) (cond ((net_checkPlace.spec x) != 0) (k0 ((net_checkPlace.spec x)) (x2) (x8)) (L1.l N x0 k0 k1 l (x2 + 1) (x8))) (cond (x21 != 0) (k0 (x21) (x2) (x8)) (L1.l N x0 k0 k1 l (x2 + 1) (x8)))) (cond ((x8.length + 1).ble mxl) (cond ((net_checkPlace.spec x) != 0) (k0 ((net_checkPlace.spec x)) (x2) (x8 ++ [x.fst])) (L1.l N x0 k0 k1 l (x2 + 1) (x8 ++ [x.fst]))) (none))))
theorem L1.rng {α : Type} {N : Nat} (x0 : (List (BA × Int × Int))) (hl : x0.length ≤ maxLen) (k0 : (Int → Int → (List BA) → Option α)) (k1 : ((List BA) → Option α)) : ∀ (n j : Nat) (x8 : (List BA)), x0.length < n + j → j ≤ x0.length → L1.f N x0 (x0.length : Int) n (j : Int) x8 k0 k1 = L1.l N x0 k0 k1 (x0.drop j) (j : Int) x8 :=
 rng1 x0 hl (fun n i x8 => L1.f N x0 (x0.length : Int) n i x8 k0 k1) (fun l i x8 => L1.l N x0 k0 k1 l i x8) (fun n j hj h ih x8 => by simp only [L1.f, L1.st, L1.l, h.a, h.b, h.c, h.d, h.e, Bool.true_and, Bool.and_true, Bool.and_self, cond_true, ih] <;> rfl) (fun n j h x8 => by simp only [L1.f, L1.st, L1.l, h, cond_false])
def L2.l {α : Type} (N : Nat) (x35 : BA) (x48 : (List BA)) (k0 : (Int → Option α)) (k1 : Option α) : List BA → Int → Option α
 | [], x37 => k1 
 | x :: l, x37 => (cond (sEq x x35) (k0 (6)) (L2.l N x35 x48 k0 k1 l (x37 + 1)))
theorem L2.rng {α : Type} {N : Nat} (x35 : BA) (x48 : (List BA)) (hl : x48.length ≤ maxLen) (k0 : (Int → Option α)) (k1 : Option α) : ∀ (n j : Nat), x48.length < n + j → j ≤ x48.length → L2.f N x35 (x48.length : Int) x48 n (j : Int) k0 k1 = L2.l N x35 x48 k0 k1 (x48.drop j) (j : Int) :=
 rng0 x48 hl (fun n i => L2.f N x35 (x48.length : Int) x48 n i k0 k1) (fun l i => L2.l N x35 x48 k0 k1 l i) (fun n j hj h ih => by simp only [L2.f, L2.st, L2.l, h.a, h.b, h.c, h.d, h.e, Bool.true_and, Bool.and_true, Bool.and_self, cond_true, ih] <;> rfl) (fun n j h => by simp only [L2.f, L2.st, L2.l, h, cond_false])
def L3.l {α : Type} (N : Nat) (x26 : (List (BA × List (Int × Int) × List (Int × Int) × List (Int × Int) × Int))) (x30 : (List (BA × Int × Int))) (k0 : (Int → Int → Option α)) (k1 : Option α) : List (BA × List (Int × Int) × List (Int × Int) × List (Int × Int) × Int) → Int → (List BA) → Option α
 | [], x28, x34 => k1 
 | x :: l, x28, x34 => (cond (!(net_Name.spec x.fst)) (k0 (5) (IntKind.i64.wrap ((↑x30.length : Int) + x28))) (L2.f N (x.fst) ((↑x34.length : Int)) (x34) N (0) (fun x49 => cond (x49 == 0) (lt (net_checkTrans.spec x (↑x30.length : Int)) fun v5 => cond (v5 != 0) (k0 (v5) (IntKind.i64.wrap ((↑x30.length : Int) + x28))) (L3.l N x26 x30 k0 k1 l (x28 + 1) (x34))) (cond (x49 != 0) (k0 (x49) (IntKind.i64.wrap ((↑x30.length : Int) + x28))) (L3.l N x26 x30 k0 k1 l (x28 + 1) (x34)))) (cond ((x34.length + 1).ble mxl) (lt (net_checkTrans.spec x (↑x30.length : Int)) fun v6 => cond (v6 != 0) (k0 (v6) (IntKind.i64.wrap ((↑x30.length : Int) + x28))) (L3.l N x26 x30 k0 k1 l (x28 + 1) (x34 ++ [x.fst]))) (none))))
theorem L3.rng {α : Type} {N : Nat} (x26 : (List (BA × List (Int × Int) × List (Int × Int) × List (Int × Int) × Int))) (x30 : (List (BA × Int × Int))) (hl : x26.length ≤ maxLen) (k0 : (Int → Int → Option α)) (k1 : Option α) : ∀ (n j : Nat) (x34 : (List BA)), x26.length < n + j → j ≤ x26.length → L3.f N x26 (x26.length : Int) x30 n (j : Int) x34 k0 k1 = L3.l N x26 x30 k0 k1 (x26.drop j) (j : Int) x34 :=
 rng1 x26 hl (fun n i x34 => L3.f N x26 (x26.length : Int) x30 n i x34 k0 k1) (fun l i x34 => L3.l N x26 x30 k0 k1 l i x34) (fun n j hj h ih x34 => by simp only [L3.f, L3.st, L3.l, h.a, h.b, h.c, h.d, h.e, Bool.true_and, Bool.and_true, Bool.and_self, cond_true, ih] <;> rfl) (fun n j h x34 => by simp only [L3.f, L3.st, L3.l, h, cond_false])
end net_Check
theorem net_Check.L0.law {α : Type} {N : Nat} (hN : 18446744073709551616 ≤ N) (s : BA) (names : List BA) (hl : names.length ≤ 1000) (k0 : Int → Option α) (k1 : Option α) :
  net_Check.L0.f N s (names.length : Int) names N 0 k0 k1 = cond (names.any fun o => sEq o s) (k0 6) k1 := by
 have go : ∀ (l : List BA) (j : Int), net_Check.L0.l N s names k0 k1 l j = cond (l.any fun o => sEq o s) (k0 6) k1 := by
  intro l
  induction l with
  | nil => intro j; rfl
  | cons x l ih =>
   intro j
   rw [net_Check.L0.l, ih, List.any_cons]
   cases sEq x s <;> rfl
 refine (net_Check.L0.rng (N := N) s names (by unfold maxLen; omega) k0 k1 N 0 (by omega) (Nat.zero_le _)).trans ?_
 rw [List.drop_zero]
 exact go names 0
theorem net_Check.L2.law {α : Type} {N : Nat} (hN : 18446744073709551616 ≤ N) (s : BA) (names : List BA) (hl : names.length ≤ 1000) (k0 : Int → Option α) (k1 : Option α) :
  net_Check.L2.f N s (names.length : Int) names N 0 k0 k1 = cond (names.any fun o => sEq o s) (k0 6) k1 := by
 have go : ∀ (l : List BA) (j : Int), net_Check.L2.l N s names k0 k1 l j = cond (l.any fun o => sEq o s) (k0 6) k1 := by
  intro l
  induction l with
  | nil => intro j; rfl
  | cons x l ih =>
   intro j
   rw [net_Check.L2.l, ih, List.any_cons]
   cases sEq x s <;> rfl
 refine (net_Check.L2.rng (N := N) s names (by unfold maxLen; omega) k0 k1 N 0 (by omega) (Nat.zero_le _)).trans ?_
 rw [List.drop_zero]
 exact go names 0
theorem net_Check.L1.law {α : Type} {N : Nat} (hN : 18446744073709551616 ≤ N) (x0) (K : Int × Int → Option α) (k1 : List BA → Option α) : ∀ (l : List (BA × Int × Int)) (i : Int) (names : List BA), names.length + l.length ≤ 1000 →
  net_Check.L1.l N x0 (fun e i _ => K (e, i)) k1 l i names = match placesE names i l with | some r => K r | none => k1 (names ++ l.map (·.1))
 | [], i, names, _ => by simp [net_Check.L1.l, placesE]
 | x :: l, i, names, h => by
  simp only [List.length_cons] at h
  rw [net_Check.L1.l, placesE]
  have en : net_Name.spec x.1 = nameOk x.1 := rfl
  have ep : net_checkPlace.spec x = placeE x := rfl
  rw [en, ep, net_Check.L0.law hN x.1 names (by omega)]
  unfold addE
  cases nameOk x.1
  ·
   rfl
  ·
   cases names.any fun o => sEq o x.1
   ·
    have eb : ((names.length + 1).ble mxl) = true := Nat.ble_eq_true_of_le (by unfold mxl; simp; omega)
    simp only [Bool.not_true, cond_false, cond_true, eb, lt, ep]
    rw [net_Check.L1.law hN x0 K k1 l (i + 1) (names ++ [x.1]) (by simp; omega)]
    have e2 : (placeE x != 0) = !(placeE x == 0) := rfl
    have e3 : ((0 : Int) == 0) = true := rfl
    rw [e2, e3]
    cases placeE x == 0
    ·
     rfl
    ·
     simp only [Bool.not_true, cond_false, cond_true, List.map_cons, List.append_assoc, List.singleton_append]
   ·
    rfl
theorem net_Check.L3.law {α : Type} {N : Nat} (hN : 18446744073709551616 ≤ N) (x26) (ps : List (BA × Int × Int)) (hp : ps.length ≤ 1000) (K : Int × Int → Option α) (k1 : Option α) : ∀ (l : List TransT) (i : Nat) (names : List BA), names.length + l.length ≤ 1000 → i + l.length ≤ 1000 →
  net_Check.L3.l N x26 ps (fun e i => K (e, i)) k1 l (i : Int) names = match transesE (ps.length : Int) names (i : Int) l with | some r => K r | none => k1
 | [], i, names, _, _ => by simp [net_Check.L3.l, transesE]
 | x :: l, i, names, h, h' => by
  simp only [List.length_cons] at h h'
  rw [net_Check.L3.l, transesE]
  have en : net_Name.spec x.1 = nameOk x.1 := rfl
  have ep : net_checkTrans.spec x (ps.length : Int) = transE x (ps.length : Int) := rfl
  have ew : IntKind.i64.wrap ((ps.length : Int) + (i : Int)) = (ps.length : Int) + (i : Int) := wrap_i64 (inI_i64.2 (by omega))
  rw [en, ep, ew, net_Check.L2.law hN x.1 names (by omega)]
  unfold addE
  cases nameOk x.1
  ·
   rfl
  ·
   cases names.any fun o => sEq o x.1
   ·
    have eb : ((names.length + 1).ble mxl) = true := Nat.ble_eq_true_of_le (by unfold mxl; simp; omega)
    simp only [Bool.not_true, cond_false, cond_true, eb, lt, ep]
    rw [← succ_cast, net_Check.L3.law hN x26 ps hp K k1 l (i + 1) (names ++ [x.1]) (by simp; omega) (by omega)]
    have e2 : (transE x (ps.length : Int) != 0) = !(transE x (ps.length : Int) == 0) := rfl
    have e3 : ((0 : Int) == 0) = true := rfl
    rw [e2, e3]
    cases transE x (ps.length : Int) == 0
    ·
     rfl
    ·
     rfl
   ·
    rfl
theorem net_Check.law {α : Type} {N : Nat} (hN : 18446744073709551616 ≤ N) (a0 : BA × (List (BA × Int × Int)) × List (BA × (List (Int × Int)) × (List (Int × Int)) × (List (Int × Int)) × Int)) (w0 : K.wf (.st (.pr (.str) (.pr (.sl (.st (.pr (.str) (.pr (.int .i64) (.int .i64))))) (.sl (.st (.pr (.str) (.pr (.sl (.st (.pr (.int .i64) (.int .i64)))) (.pr (.sl (.st (.pr (.int .i64) (.int .i64)))) (.pr (.sl (.st (.pr (.int .i64) (.int .i64)))) (.int .i64)))))))))) a0) (kr : ((Int × Int) → Option α)) : net_Check.g N a0 kr = kr (net_Check.spec a0) := by
 unfold net_Check.g net_Check.spec checkN
 have en : net_Name.spec a0.1 = nameOk a0.1 := rfl
 rw [en]
 cases nameOk a0.1
 ·
  rfl
 ·
  simp only [Bool.not_true, cond_false, cond_true]
  by_cases h1 : List.length a0.2.1 < 1
  ·
   have e1 : decide (((List.length a0.2.1 : Nat) : Int) < 1) = true := decide_eq_true (by omega)
   rw [e1, decide_eq_true h1]
   rfl
  ·
   have e1 : decide (((List.length a0.2.1 : Nat) : Int) < 1) = false := decide_eq_false (by omega)
   rw [e1, decide_eq_false h1, cond_false, Bool.false_or]
   by_cases h2 : 24 < List.length a0.2.1
   ·
    have e2 : decide (24 < ((List.length a0.2.1 : Nat) : Int)) = true := decide_eq_true (by omega)
    rw [e2, decide_eq_true h2]
    rfl
   ·
    have e2 : decide (24 < ((List.length a0.2.1 : Nat) : Int)) = false := decide_eq_false (by omega)
    rw [e2, decide_eq_false h2, cond_false, Bool.false_or]
    by_cases h3 : 24 < List.length a0.2.2
    ·
     have e3 : decide (24 < ((List.length a0.2.2 : Nat) : Int)) = true := decide_eq_true (by omega)
     rw [e3, decide_eq_true h3]
     rfl
    ·
     have e3 : decide (24 < ((List.length a0.2.2 : Nat) : Int)) = false := decide_eq_false (by omega)
     rw [e3, decide_eq_false h3, cond_false, cond_false]
     refine (net_Check.L1.rng (N := N) a0.2.1 (by unfold maxLen; omega) _ _ N 0 [] (by omega) (Nat.zero_le _)).trans ?_
     rw [List.drop_zero]
     refine (net_Check.L1.law hN a0.2.1 (fun r => kr r) _ a0.2.1 ((0 : Nat) : Int) [] (by simp; omega)).trans ?_
     have e0 : (((0 : Nat) : Int)) = 0 := rfl
     rw [e0]
     cases placesE [] 0 a0.2.1 with
     | some r => rfl
     | none =>
      simp only [List.nil_append]
      refine (net_Check.L3.rng (N := N) a0.2.2 a0.2.1 (by unfold maxLen; omega) _ _ N 0 _ (by omega) (Nat.zero_le _)).trans ?_
      rw [List.drop_zero]
      refine (net_Check.L3.law hN a0.2.2 a0.2.1 (by omega) (fun r => kr r) _ a0.2.2 0 _ (by simp; omega) (by omega)).trans ?_
      cases transesE ((List.length a0.2.1 : Nat) : Int) (a0.2.1.map (·.1)) ((0 : Nat) : Int) a0.2.2 <;> rfl
theorem net_Check.ok : FentOk P 53 net_Check.fent := fentOk_of (by kernel_rfl) fun ds hk => by
 obtain ⟨a0, l0, rfl, h0⟩ := ds_cons hk
 obtain rfl := ds0 h0
 exact ⟨true, [.dat (.st (.pr (.int .i64) (.int .i64))) (net_Check.spec a0)], fun h hw => net_Check.calls 18446744073709551616 a0 (net_Check.law (Nat.le_refl _) a0 hw.1 _), fun α k => rfl⟩
end Go.VI
namespace Go.VI
open Go Go.Proofs
namespace net_valid
def an85 : Ann := []
def ents85 {α : Type} (N : Nat) : List (SmE α) := []
def C (N : Nat) : Ctx := ⟨tys, [(53, net_Check.fent)], [], N⟩
theorem ents85_ok {α : Type} (N : Nat) : AllP (EntOk (C N) Tryd.f85 an85 (ents85 (α := α) N)) (ents85 N) := trivial
def g {α : Type} (N : Nat) (a0 : BA × List (BA × Int × Int) × List (BA × List (Int × Int) × List (Int × Int) × List (Int × Int) × Int)) (kr : (Bool → Option α)) : Option α :=
 kr ((net_Check.spec a0).fst == 0)
theorem eq (N : Nat) (a0 : BA × List (BA × Int × Int) × List (BA × List (Int × Int) × List (Int × Int) × List (Int × Int) × Int)) : evF (C N) 50 Tryd.f85 an85 (smL (ents85 N) 0 50) [((.bool : K), false)] [⟨.st (.pr (.str) (.pr (.sl (.st (.pr (.str) (.pr (.int .i64) (.int .i64))))) (.sl (.st (.pr (.str) (.pr (.sl (.st (.pr (.int .i64) (.int .i64)))) (.pr (.sl (.st (.pr (.int .i64) (.int .i64)))) (.pr (.sl (.st (.pr (.int .i64) (.int .i64)))) (.int .i64))))))))), a0⟩] = g N a0 (fun r0 => some [.dat (K.bool) r0]) := by kernel_rfl
theorem ctxOk (N : Nat) : CtxOk P (C N) := ctxOk_of tysOk mixedOk ⟨net_Check.ok, trivial⟩ trivial
theorem calls (N : Nat) (a0 : BA × List (BA × Int × Int) × List (BA × List (Int × Int) × List (Int × Int) × List (Int × Int) × Int)) {rs : List Rs} (h : g N a0 (fun r0 => some [.dat (K.bool) r0]) = some rs) : CallsTo P 85 [⟨.st (.pr (.str) (.pr (.sl (.st (.pr (.str) (.pr (.int .i64) (.int .i64))))) (.sl (.st (.pr (.str) (.pr (.sl (.st (.pr (.int .i64) (.int .i64)))) (.pr (.sl (.st (.pr (.int .i64) (.int .i64)))) (.pr (.sl (.st (.pr (.int .i64) (.int .i64)))) (.int .i64))))))))), a0⟩] rs := evF_calls' (ctxOk N) (by rfl) (ents85_ok N) ((eq N a0).trans h)
end net_valid
theorem net_valid.law {α : Type} {N : Nat} (hN : 18446744073709551616 ≤ N) (a0 : BA × (List (BA × Int × Int)) × List (BA × (List (Int × Int)) × (List (Int × Int)) × (List (Int × Int)) × Int)) (w0 : K.wf (.st (.pr (.str) (.pr (.sl (.st (.pr (.str) (.pr (.int .i64) (.int .i64))))) (.sl (.st (.pr (.str) (.pr (.sl (.st (.pr (.int .i64) (.int .i64)))) (.pr (.sl (.st (.pr (.int .i64) (.int .i64)))) (.pr (.sl (.st (.pr (.int .i64) (.int .i64)))) (.int .i64)))))))))) a0) (kr : (Bool → Option α)) : net_valid.g N a0 kr = kr (net_valid.spec a0) := by
 rfl
theorem net_valid.ok : FentOk P 85 net_valid.fent := fentOk_of (by kernel_rfl) fun ds hk => by
 obtain ⟨a0, l0, rfl, h0⟩ := ds_cons hk
 obtain rfl := ds0 h0
 exact ⟨true, [.dat (.bool) (net_valid.spec a0)], fun h hw => net_valid.calls 18446744073709551616 a0 (net_valid.law (Nat.le_refl _) a0 hw.1 _), fun α k => rfl⟩
end Go.VI
namespace Go.VI
open Go Go.Proofs
namespace net_Place
def an62 : Ann := [(4, [1, 11, 12, 13], [4])]
def L0.sh : Sh := { sl := [(1, SV.a (SA.d K.str)), (11, SV.a (SA.d (K.str.pr ((K.int IntKind.i64).pr (K.int IntKind.i64))).st.sl)), (12, SV.a (SA.d (K.int IntKind.i64))), (13, SV.a (SA.d (K.int IntKind.i64)))], os := [], nx := 0 }
def L0.x0 : Sh := { sl := [(4, SV.a (SA.d (K.int IntKind.i64)))], os := [], nx := 0 }
def L0.x1 : Sh := { sl := [(4, SV.j)], os := [], nx := 0 }
def L0.st {α : Type} (N : Nat) (x0 : BA) (x1 : (List (BA × Int × Int))) (x2 : Int) (φ : (Int → Option α)) (x3 : Int) (k0 : (Int → Option α)) (k1 : Option α) : Option α :=
 cond (decide (x3 < x2)) (cond (decide (0 ≤ x3) && decide (x3 < (↑x1.length : Int))) (cond (sEq (x1.getD x3.toNat (eBA, 0, 0)).fst x0) (k0 (x3)) (φ (IntKind.i64.wrap (x3 + 1)))) (none)) (k1 )
def L0.f {α : Type} (N : Nat) (c0 : BA) (c1 : (List (BA × Int × Int))) (c2 : Int) : Nat → Int → (Int → Option α) → Option α → Option α
 | 0, _, _, _ => none
 | n + 1, d0, k0, k1 => L0.st N c0 c1 c2 (fun e0 => L0.f N c0 c1 c2 n e0 k0 k1) d0 k0 k1
def L0.up (d : L0.sh.T) (e0 : Int) : L0.sh.T := ((d.1.1, (d.1.2.1, (d.1.2.2.1, (e0, ())))), ())
def L0.k0 {α : Type} (d : L0.sh.T) (K : Cont α) : (Int → Option α) := fun y0 => K (Exit.ret) (L0.x0.enc ((y0, ()), ()))
def L0.k1 {α : Type} (d : L0.sh.T) (K : Cont α) : Option α := K (Exit.exit 0) (L0.x1.enc (((), ()), ()))
def L0.F {α : Type} (N : Nat) (d : L0.sh.T) (K : Cont α) : Option α := L0.f N d.1.1 d.1.2.1 d.1.2.2.1 N d.1.2.2.2.1 (L0.k0 d K) (L0.k1 d K)
def ents62 {α : Type} (N : Nat) : List (SmE α) := [⟨0, 50, 4, [⟨L0.sh, L0.F N⟩]⟩]
def C (N : Nat) : Ctx := ⟨tys, [(85, net_valid.fent)], [], N⟩
def L0.B {α : Type} (N : Nat) : Env → Cont α → Option α := evC tys 24 0 (evCall (C N) 50) (evCallQ (C N)) N an62 (smL (ents62 N) 0 50) (loopOf 4 Tryd.f62)
theorem L0.r {α : Type} (N : Nat) (φ : Env → Option α) (K : Cont α) (d : L0.sh.T) : L0.B N (L0.sh.enc d) (contL φ K (Env.norm 0 [1, 11, 12, 13]) (Env.norm 0 [4])) = L0.st N d.1.1 d.1.2.1 d.1.2.2.1 (fun e0 => φ (L0.sh.enc (L0.up d e0))) d.1.2.2.2.1 (L0.k0 d K) (L0.k1 d K) := by kernel_rfl
theorem L0.e {α : Type} (N : Nat) : ∀ (n : Nat) (d : L0.sh.T) (K : Cont α), evL (L0.B N) (Env.norm 0 [1, 11, 12, 13]) (Env.norm 0 [4]) n (L0.sh.enc d) K = L0.f N d.1.1 d.1.2.1 d.1.2.2.1 n d.1.2.2.2.1 (L0.k0 d K) (L0.k1 d K)
 | 0, d, K => rfl
 | n + 1, d, K => evL_contL.trans ((L0.r N _ K d).trans (congrArg (fun φ => L0.st N d.1.1 d.1.2.1 d.1.2.2.1 φ d.1.2.2.2.1 (L0.k0 d K) (L0.k1 d K)) (funext fun e0 => L0.e N n (L0.up d e0) K)))
theorem ents62_ok {α : Type} (N : Nat) : AllP (EntOk (C N) Tryd.f62 an62 (ents62 (α := α) N)) (ents62 N) := ⟨entOk_of (b0 := loopOf 4 Tryd.f62) (li0 := [1, 11, 12, 13]) (lx0 := [4]) (by kernel_rfl) (by kernel_rfl) ⟨fun d K => L0.e N N d K, trivial⟩, trivial⟩
def g {α : Type} (N : Nat) (a0 : BA × List (BA × Int × Int) × List (BA × List (Int × Int) × List (Int × Int) × List (Int × Int) × Int)) (a1 : BA) (kr : (Int → Option α)) : Option α :=
 cond (!(net_valid.spec a0)) (kr (-1)) (L0.f N (a1) (a0.snd.fst) ((↑(List.length a0.snd.fst) : Int)) N (0) (fun x4 => kr (x4)) (kr (-1)))
theorem eq (N : Nat) (a0 : BA × List (BA × Int × Int) × List (BA × List (Int × Int) × List (Int × Int) × List (Int × Int) × Int)) (a1 : BA) : evF (C N) 50 Tryd.f62 an62 (smL (ents62 N) 0 50) [((.int .i64 : K), false)] [⟨.st (.pr (.str) (.pr (.sl (.st (.pr (.str) (.pr (.int .i64) (.int .i64))))) (.sl (.st (.pr (.str) (.pr (.sl (.st (.pr (.int .i64) (.int .i64)))) (.pr (.sl (.st (.pr (.int .i64) (.int .i64)))) (.pr (.sl (.st (.pr (.int .i64) (.int .i64)))) (.int .i64))))))))), a0⟩, ⟨.str, a1⟩] = g N a0 a1 (fun r0 => some [.dat (K.int IntKind.i64) r0]) := by kernel_rfl
theorem ctxOk (N : Nat) : CtxOk P (C N) := ctxOk_of tysOk mixedOk ⟨net_valid.ok, trivial⟩ trivial
theorem calls (N : Nat) (a0 : BA × List (BA × Int × Int) × List (BA × List (Int × Int) × List (Int × Int) × List (Int × Int) × Int)) (a1 : BA) {rs : List Rs} (h : g N a0 a1 (fun r0 => some [.dat (K.int IntKind.i64) r0]) = some rs) : CallsTo P 62 [⟨.st (.pr (.str) (.pr (.sl (.st (.pr (.str) (.pr (.int .i64) (.int .i64))))) (.sl (.st (.pr (.str) (.pr (.sl (.st (.pr (.int .i64) (.int .i64)))) (.pr (.sl (.st (.pr (.int .i64) (.int .i64)))) (.pr (.sl (.st (.pr (.int .i64) (.int .i64)))) (.int .i64))))))))), a0⟩, ⟨.str, a1⟩] rs := evF_calls' (ctxOk N) (by rfl) (ents62_ok N) ((eq N a0 a1).trans h)
def L0.l {α : Type} (N : Nat) (x0 : BA) (x1 : (List (BA × Int × Int))) (k0 : (Int → Option α)) (k1 : Option α) : List (BA × Int × Int) → Int → Option α
 | [], x3 => k1 
 | x :: l, x3 => (cond (sEq x.fst x0) (k0 (x3)) (L0.l N x0 x1 k0 k1 l (x3 + 1)))
theorem L0.rng {α : Type} {N : Nat} (x0 : BA) (x1 : (List (BA × Int × Int))) (hl : x1.length ≤ maxLen) (k0 : (Int → Option α)) (k1 : Option α) : ∀ (n j : Nat), x1.length < n + j → j ≤ x1.length → L0.f N x0 x1 (x1.length : Int) n (j : Int) k0 k1 = L0.l N x0 x1 k0 k1 (x1.drop j) (j : Int) :=
 rng0 x1 hl (fun n i => L0.f N x0 x1 (x1.length : Int) n i k0 k1) (fun l i => L0.l N x0 x1 k0 k1 l i) (fun n j hj h ih => by simp only [L0.f, L0.st, L0.l, h.a, h.b, h.c, h.d, h.e, Bool.true_and, Bool.and_true, Bool.and_self, cond_true, ih] <;> rfl) (fun n j h => by simp only [L0.f, L0.st, L0.l, h, cond_false])
end net_Place
theorem net_Place.L0.law {α : Type} {N : Nat} (s : BA) (xs : List (BA × Int × Int)) (k0 : Int → Option α) : ∀ (l : List (BA × Int × Int)) (i : Int),
  net_Place.L0.l N s xs k0 (k0 (-1)) l i = k0 (firstI (fun p => sEq p.1 s) i l)
 | [], i => rfl
 | x :: l, i => by
  rw [net_Place.L0.l, net_Place.L0.law s xs k0 l, firstI]
  cases sEq x.1 s <;> rfl
theorem net_Place.law {α : Type} {N : Nat} (hN : 18446744073709551616 ≤ N) (a0 : BA × (List (BA × Int × Int)) × List (BA × (List (Int × Int)) × (List (Int × Int)) × (List (Int × Int)) × Int)) (a1 : BA) (w0 : K.wf (.st (.pr (.str) (.pr (.sl (.st (.pr (.str) (.pr (.int .i64) (.int .i64))))) (.sl (.st (.pr (.str) (.pr (.sl (.st (.pr (.int .i64) (.int .i64)))) (.pr (.sl (.st (.pr (.int .i64) (.int .i64)))) (.pr (.sl (.st (.pr (.int .i64) (.int .i64)))) (.int .i64)))))))))) a0) (w1 : K.wf (.str) a1) (kr : (Int → Option α)) : net_Place.g N a0 a1 kr = kr (net_Place.spec a0 a1) := by
 unfold net_Place.g net_Place.spec placeI
 simp only [net_valid.spec]
 cases (checkN a0).1 == 0
 ·
  rfl
 ·
  simp only [cond_true]
  refine (net_Place.L0.rng (N := N) a1 a0.2.1 w0.2.1.1 (fun x => kr x) (kr (-1)) N 0 (by have := le_fuel w0.2.1.1 hN; omega) (Nat.zero_le _)).trans ?_
  rw [List.drop_zero]
  exact net_Place.L0.law a1 a0.2.1 (fun x => kr x) a0.2.1 0
theorem net_Place.ok : FentOk P 62 net_Place.fent := fentOk_of (by kernel_rfl) fun ds hk => by
 obtain ⟨a0, l0, rfl, h0⟩ := ds_cons hk
 obtain ⟨a1, l1, rfl, h1⟩ := ds_cons h0
 obtain rfl := ds0 h1
 exact ⟨true, [.dat (.int .i64) (net_Place.spec a0 a1)], fun h hw => net_Place.calls 18446744073709551616 a0 a1 (net_Place.law (Nat.le_refl _) a0 a1 hw.1 hw.2.1 _), fun α k => rfl⟩
end Go.VI
namespace Go.VI
open Go Go.Proofs
namespace net_Trans
def an63 : Ann := [(4, [1, 11, 12, 13], [4])]
def L0.sh : Sh := { sl := [(1, SV.a (SA.d K.str)), (11, SV.a (SA.d (K.str.pr (((K.int IntKind.i64).pr (K.int IntKind.i64)).st.sl.pr (((K.int IntKind.i64).pr (K.int IntKind.i64)).st.sl.pr (((K.int IntKind.i64).pr (K.int IntKind.i64)).st.sl.pr (K.int IntKind.i64))))).st.sl)), (12, SV.a (SA.d (K.int IntKind.i64))), (13, SV.a (SA.d (K.int IntKind.i64)))], os := [], nx := 0 }
def L0.x0 : Sh := { sl := [(4, SV.a (SA.d (K.int IntKind.i64)))], os := [], nx := 0 }
def L0.x1 : Sh := { sl := [(4, SV.j)], os := [], nx := 0 }
def L0.st {α : Type} (N : Nat) (x0 : BA) (x1 : (List (BA × List (Int × Int) × List (Int × Int) × List (Int × Int) × Int))) (x2 : Int) (φ : (Int → Option α)) (x3 : Int) (k0 : (Int → Option α)) (k1 : Option α) : Option α :=
 cond (decide (x3 < x2)) (cond (decide (0 ≤ x3) && decide (x3 < (↑x1.length : Int))) (cond (sEq (x1.getD x3.toNat (eBA, [], [], [], 0)).fst x0) (k0 (x3)) (φ (IntKind.i64.wrap (x3 + 1)))) (none)) (k1 )
def L0.f {α : Type} (N : Nat) (c0 : BA) (c1 : (List (BA × List (Int × Int) × List (Int × Int) × List (Int × Int) × Int))) (c2 : Int) : Nat → Int → (Int → Option α) → Option α → Option α
 | 0, _, _, _ => none
 | n + 1, d0, k0, k1 => L0.st N c0 c1 c2 (fun e0 => L0.f N c0 c1 c2 n e0 k0 k1) d0 k0 k1
def L0.up (d : L0.sh.T) (e0 : Int) : L0.sh.T := ((d.1.1, (d.1.2.1, (d.1.2.2.1, (e0, ())))), ())
def L0.k0 {α : Type} (d : L0.sh.T) (K : Cont α) : (Int → Option α) := fun y0 => K (Exit.ret) (L0.x0.enc ((y0, ()), ()))
def L0.k1 {α : Type} (d : L0.sh.T) (K : Cont α) : Option α := K (Exit.exit 0) (L0.x1.enc (((), ()), ()))
def L0.F {α : Type} (N : Nat) (d : L0.sh.T) (K : Cont α) : Option α := L0.f N d.1.1 d.1.2.1 d.1.2.2.1 N d.1.2.2.2.1 (L0.k0 d K) (L0.k1 d K)
def ents63 {α : Type} (N : Nat) : List (SmE α) := [⟨0, 50, 4, [⟨L0.sh, L0.F N⟩]⟩]
def C (N : Nat) : Ctx := ⟨tys, [(85, net_valid.fent)], [], N⟩
def L0.B {α : Type} (N : Nat) : Env → Cont α → Option α := evC tys 24 0 (evCall (C N) 50) (evCallQ (C N)) N an63 (smL (ents63 N) 0 50) (loopOf 4 Tryd.f63)
theorem L0.r {α : Type} (N : Nat) (φ : Env → Option α) (K : Cont α) (d : L0.sh.T) : L0.B N (L0.sh.enc d) (contL φ K (Env.norm 0 [1, 11, 12, 13]) (Env.norm 0 [4])) = L0.st N d.1.1 d.1.2.1 d.1.2.2.1 (fun e0 => φ (L0.sh.enc (L0.up d e0))) d.1.2.2.2.1 (L0.k0 d K) (L0.k1 d K) := by kernel_rfl
theorem L0.e {α : Type} (N : Nat) : ∀ (n : Nat) (d : L0.sh.T) (K : Cont α), evL (L0.B N) (Env.norm 0 [1, 11, 12, 13]) (Env.norm 0 [4]) n (L0.sh.enc d) K = L0.f N d.1.1 d.1.2.1 d.1.2.2.1 n d.1.2.2.2.1 (L0.k0 d K) (L0.k1 d K)
 | 0, d, K => rfl
 | n + 1, d, K => evL_contL.trans ((L0.r N _ K d).trans (congrArg (fun φ => L0.st N d.1.1 d.1.2.1 d.1.2.2.1 φ d.1.2.2.2.1 (L0.k0 d K) (L0.k1 d K)) (funext fun e0 => L0.e N n (L0.up d e0) K)))
theorem ents63_ok {α : Type} (N : Nat) : AllP (EntOk (C N) Tryd.f63 an63 (ents63 (α := α) N)) (ents63 N) := ⟨entOk_of (b0 := loopOf 4 Tryd.f63) (li0 := [1, 11, 12, 13]) (lx0 := [4]) (by kernel_rfl) (by kernel_rfl) ⟨fun d K => L0.e N N d K, trivial⟩, trivial⟩
def g {α : Type} (N : Nat) (a0 : BA × List (BA × Int × Int) × List (BA × List (Int × Int) × List (Int × Int) × List (Int × Int) × Int)) (a1 : BA) (kr : (Int → Option α)) : Option α :=
 cond (!(net_valid.spec a0)) (kr (-1)) (L0.f N (a1) (a0.snd.snd) ((↑(List.length a0.snd.snd) : Int)) N (0) (fun x4 => kr (x4)) (kr (-1)))
theorem eq (N : Nat) (a0 : BA × List (BA × Int × Int) × List (BA × List (Int × Int) × List (Int × Int) × List (Int × Int) × Int)) (a1 : BA) : evF (C N) 50 Tryd.f63 an63 (smL (ents63 N) 0 50) [((.int .i64 : K), false)] [⟨.st (.pr (.str) (.pr (.sl (.st (.pr (.str) (.pr (.int .i64) (.int .i64))))) (.sl (.st (.pr (.str) (.pr (.sl (.st (.pr (.int .i64) (.int .i64)))) (.pr (.sl (.st (.pr (.int .i64) (.int .i64)))) (.pr (.sl (.st (.pr (.int .i64) (.int .i64)))) (.int .i64))))))))), a0⟩, ⟨.str, a1⟩] = g N a0 a1 (fun r0 => some [.dat (K.int IntKind.i64) r0]) := by kernel_rfl
theorem ctxOk (N : Nat) : CtxOk P (C N) := ctxOk_of tysOk mixedOk ⟨net_valid.ok, trivial⟩ trivial
theorem calls (N : Nat) (a0 : BA × List (BA × Int × Int) × List (BA × List (Int × Int) × List (Int × Int) × List (Int × Int) × Int)) (a1 : BA) {rs : List Rs} (h : g N a0 a1 (fun r0 => some [.dat (K.int IntKind.i64) r0]) = some rs) : CallsTo P 63 [⟨.st (.pr (.str) (.pr (.sl (.st (.pr (.str) (.pr (.int .i64) (.int .i64))))) (.sl (.st (.pr (.str) (.pr (.sl (.st (.pr (.int .i64) (.int .i64)))) (.pr (.sl (.st (.pr (.int .i64) (.int .i64)))) (.pr (.sl (.st (.pr (.int .i64) (.int .i64)))) (.int .i64))))))))), a0⟩, ⟨.str, a1⟩] rs := evF_calls' (ctxOk N) (by rfl) (ents63_ok N) ((eq N a0 a1).trans h)
def L0.l {α : Type} (N : Nat) (x0 : BA) (x1 : (List (BA × List (Int × Int) × List (Int × Int) × List (Int × Int) × Int))) (k0 : (Int → Option α)) (k1 : Option α) : List (BA × List (Int × Int) × List (Int × Int) × List (Int × Int) × Int) → Int → Option α
 | [], x3 => k1 
 | x :: l, x3 => (cond (sEq x.fst x0) (k0 (x3)) (L0.l N x0 x1 k0 k1 l (x3 + 1)))
theorem L0.rng {α : Type} {N : Nat} (x0 : BA) (x1 : (List (BA × List (Int × Int) × List (Int × Int) × List (Int × Int) × Int))) (hl : x1.length ≤ maxLen) (k0 : (Int → Option α)) (k1 : Option α) : ∀ (n j : Nat), x1.length < n + j → j ≤ x1.length → L0.f N x0 x1 (x1.length : Int) n (j : Int) k0 k1 = L0.l N x0 x1 k0 k1 (x1.drop j) (j : Int) :=
 rng0 x1 hl (fun n i => L0.f N x0 x1 (x1.length : Int) n i k0 k1) (fun l i => L0.l N x0 x1 k0 k1 l i) (fun n j hj h ih => by simp only [L0.f, L0.st, L0.l, h.a, h.b, h.c, h.d, h.e, Bool.true_and, Bool.and_true, Bool.and_self, cond_true, ih] <;> rfl) (fun n j h => by simp only [L0.f, L0.st, L0.l, h, cond_false])
end net_Trans
theorem net_Trans.L0.law {α : Type} {N : Nat} (s : BA) (xs : List TransT) (k0 : Int → Option α) : ∀ (l : List TransT) (i : Int),
  net_Trans.L0.l N s xs k0 (k0 (-1)) l i = k0 (firstI (fun p => sEq p.1 s) i l)
 | [], i => rfl
 | x :: l, i => by
  rw [net_Trans.L0.l, net_Trans.L0.law s xs k0 l, firstI]
  cases sEq x.1 s <;> rfl
theorem net_Trans.law {α : Type} {N : Nat} (hN : 18446744073709551616 ≤ N) (a0 : BA × (List (BA × Int × Int)) × List (BA × (List (Int × Int)) × (List (Int × Int)) × (List (Int × Int)) × Int)) (a1 : BA) (w0 : K.wf (.st (.pr (.str) (.pr (.sl (.st (.pr (.str) (.pr (.int .i64) (.int .i64))))) (.sl (.st (.pr (.str) (.pr (.sl (.st (.pr (.int .i64) (.int .i64)))) (.pr (.sl (.st (.pr (.int .i64) (.int .i64)))) (.pr (.sl (.st (.pr (.int .i64) (.int .i64)))) (.int .i64)))))))))) a0) (w1 : K.wf (.str) a1) (kr : (Int → Option α)) : net_Trans.g N a0 a1 kr = kr (net_Trans.spec a0 a1) := by
 unfold net_Trans.g net_Trans.spec transI
 simp only [net_valid.spec]
 cases (checkN a0).1 == 0
 ·
  rfl
 ·
  simp only [cond_true]
  refine (net_Trans.L0.rng (N := N) a1 a0.2.2 w0.2.2.1 (fun x => kr x) (kr (-1)) N 0 (by have := le_fuel w0.2.2.1 hN; omega) (Nat.zero_le _)).trans ?_
  rw [List.drop_zero]
  exact net_Trans.L0.law a1 a0.2.2 (fun x => kr x) a0.2.2 0
theorem net_Trans.ok : FentOk P 63 net_Trans.fent := fentOk_of (by kernel_rfl) fun ds hk => by
 obtain ⟨a0, l0, rfl, h0⟩ := ds_cons hk
 obtain ⟨a1, l1, rfl, h1⟩ := ds_cons h0
 obtain rfl := ds0 h1
 exact ⟨true, [.dat (.int .i64) (net_Trans.spec a0 a1)], fun h hw => net_Trans.calls 18446744073709551616 a0 a1 (net_Trans.law (Nat.le_refl _) a0 a1 hw.1 hw.2.1 _), fun α k => rfl⟩
end Go.VI
