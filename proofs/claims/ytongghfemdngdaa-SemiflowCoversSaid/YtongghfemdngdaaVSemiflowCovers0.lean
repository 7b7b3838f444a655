/- What the functions that SemiflowCovers calls compute: printed out of the interpreter's normal forms (wip/vi/vigen.py) and proved. -/
import Derived.Test.YtongghfemdngdaaVi2
import Derived.Test.YtongghfemdngdaaProg
set_option linter.unusedVariables false
set_option linter.unusedSimpArgs false
set_option maxRecDepth 100000
set_option maxHeartbeats 4000000
noncomputable section
namespace Go.VI
@[reducible] def BA := ByteArray
end Go.VI
namespace Go.VI
open Go Go.Proofs
def tys : Tys := [(1, .one none (.junk)),
 (2, .one (some (.int .i64)) (.d (.int .i64) (0 : Int))),
 (3, .one (some (.int .i64)) (.d (.int .i64) (0 : Int))),
 (4, .one (some (.bool)) (.d .bool false)),
 (5, .one (some (.int .u8)) (.d (.int .u8) (0 : Int))),
 (6, .one (some (.int .u8)) (.d (.int .u8) (0 : Int))),
 (7, .agg [(0, 2), (1, 3), (2, 4), (3, 6)] 4 (some (.st (.pr (.int .i64) (.pr (.int .i64) (.pr (.bool) (.int .u8)))))) [.d (.int .i64) (0 : Int), .d (.int .i64) (0 : Int), .d .bool false, .d (.int .u8) (0 : Int)]),
 (8, .agg [(0, 2), (1, 3), (2, 4), (3, 6)] 4 (some (.st (.pr (.int .i64) (.pr (.int .i64) (.pr (.bool) (.int .u8)))))) [.d (.int .i64) (0 : Int), .d (.int .i64) (0 : Int), .d .bool false, .d (.int .u8) (0 : Int)]),
 (9, .one (some (.str)) (.d .str ⟨#[]⟩)),
 (10, .one (some (.str)) (.d .str ⟨#[]⟩)),
 (11, .one (some (.str)) (.d .str ⟨#[]⟩)),
 (12, .one (some (.int .u64)) (.d (.int .u64) (0 : Int))),
 (15, .one none (.np)),
 (16, .one none (.np)),
 (17, .one none (.np)),
 (18, .agg [(0, 17)] 1 none [.np]),
 (19, .agg [(0, 17)] 1 none [.np]),
 (21, .one (some (.int .i32)) (.d (.int .i32) (0 : Int))),
 (22, .one (some (.sl (.sl (.int .i64)))) (.nil (.sl (.int .i64)))),
 (23, .one none (.junk)),
 (24, .one none (.junk)),
 (25, .one (some (.int .i64)) (.d (.int .i64) (0 : Int))),
 (27, .one none (.junk)),
 (28, .one none (.junk)),
 (29, .one none (.junk)),
 (30, .one (some (.sl (.st (.pr (.str) (.pr (.int .i64) (.int .i64)))))) (.nil (.st (.pr (.str) (.pr (.int .i64) (.int .i64)))))),
 (31, .one (some (.sl (.st (.pr (.str) (.pr (.sl (.st (.pr (.int .i64) (.int .i64)))) (.pr (.sl (.st (.pr (.int .i64) (.int .i64)))) (.pr (.sl (.st (.pr (.int .i64) (.int .i64)))) (.int .i64)))))))) (.nil (.st (.pr (.str) (.pr (.sl (.st (.pr (.int .i64) (.int .i64)))) (.pr (.sl (.st (.pr (.int .i64) (.int .i64)))) (.pr (.sl (.st (.pr (.int .i64) (.int .i64)))) (.int .i64)))))))),
 (32, .agg [(0, 9), (1, 30), (2, 31)] 3 (some (.st (.pr (.str) (.pr (.sl (.st (.pr (.str) (.pr (.int .i64) (.int .i64))))) (.sl (.st (.pr (.str) (.pr (.sl (.st (.pr (.int .i64) (.int .i64)))) (.pr (.sl (.st (.pr (.int .i64) (.int .i64)))) (.pr (.sl (.st (.pr (.int .i64) (.int .i64)))) (.int .i64))))))))))) [.d .str ⟨#[]⟩, .nil (.st (.pr (.str) (.pr (.int .i64) (.int .i64)))), .nil (.st (.pr (.str) (.pr (.sl (.st (.pr (.int .i64) (.int .i64)))) (.pr (.sl (.st (.pr (.int .i64) (.int .i64)))) (.pr (.sl (.st (.pr (.int .i64) (.int .i64)))) (.int .i64))))))]),
 (33, .agg [(0, 9), (1, 30), (2, 31)] 3 (some (.st (.pr (.str) (.pr (.sl (.st (.pr (.str) (.pr (.int .i64) (.int .i64))))) (.sl (.st (.pr (.str) (.pr (.sl (.st (.pr (.int .i64) (.int .i64)))) (.pr (.sl (.st (.pr (.int .i64) (.int .i64)))) (.pr (.sl (.st (.pr (.int .i64) (.int .i64)))) (.int .i64))))))))))) [.d .str ⟨#[]⟩, .nil (.st (.pr (.str) (.pr (.int .i64) (.int .i64)))), .nil (.st (.pr (.str) (.pr (.sl (.st (.pr (.int .i64) (.int .i64)))) (.pr (.sl (.st (.pr (.int .i64) (.int .i64)))) (.pr (.sl (.st (.pr (.int .i64) (.int .i64)))) (.int .i64))))))]),
 (34, .one none (.junk)),
 (35, .one none (.junk)),
 (36, .one (some (.sl (.int .i64))) (.nil (.int .i64))),
 (38, .one none (.junk)),
 (39, .one none (.junk)),
 (40, .one none (.junk)),
 (41, .one none (.junk)),
 (42, .one none (.junk)),
 (43, .one none (.junk)),
 (44, .one none (.junk)),
 (45, .one (some (.sl (.int .i64))) (.nil (.int .i64))),
 (46, .one none (.junk)),
 (48, .one none (.junk)),
 (49, .one none (.junk)),
 (50, .one none (.junk)),
 (51, .one (some (.sl (.st (.pr (.sl (.int .i64)) (.int .i64))))) (.nil (.st (.pr (.sl (.int .i64)) (.int .i64))))),
 (52, .one none (.junk)),
 (54, .one none (.junk)),
 (55, .one none (.junk)),
 (56, .one (some (.int .u64)) (.d (.int .u64) (0 : Int))),
 (57, .one none (.junk)),
 (59, .one none (.junk)),
 (61, .one none (.junk)),
 (62, .one none (.junk)),
 (64, .one none (.junk)),
 (65, .agg [(0, 9), (1, 3), (2, 3)] 3 (some (.st (.pr (.str) (.pr (.int .i64) (.int .i64))))) [.d .str ⟨#[]⟩, .d (.int .i64) (0 : Int), .d (.int .i64) (0 : Int)]),
 (66, .agg [(0, 9), (1, 3), (2, 3)] 3 (some (.st (.pr (.str) (.pr (.int .i64) (.int .i64))))) [.d .str ⟨#[]⟩, .d (.int .i64) (0 : Int), .d (.int .i64) (0 : Int)]),
 (67, .one (some (.sl (.st (.pr (.int .i64) (.int .i64))))) (.nil (.st (.pr (.int .i64) (.int .i64))))),
 (68, .agg [(0, 9), (1, 67), (2, 67), (3, 67), (4, 3)] 5 (some (.st (.pr (.str) (.pr (.sl (.st (.pr (.int .i64) (.int .i64)))) (.pr (.sl (.st (.pr (.int .i64) (.int .i64)))) (.pr (.sl (.st (.pr (.int .i64) (.int .i64)))) (.int .i64))))))) [.d .str ⟨#[]⟩, .nil (.st (.pr (.int .i64) (.int .i64))), .nil (.st (.pr (.int .i64) (.int .i64))), .nil (.st (.pr (.int .i64) (.int .i64))), .d (.int .i64) (0 : Int)]),
 (69, .agg [(0, 9), (1, 67), (2, 67), (3, 67), (4, 3)] 5 (some (.st (.pr (.str) (.pr (.sl (.st (.pr (.int .i64) (.int .i64)))) (.pr (.sl (.st (.pr (.int .i64) (.int .i64)))) (.pr (.sl (.st (.pr (.int .i64) (.int .i64)))) (.int .i64))))))) [.d .str ⟨#[]⟩, .nil (.st (.pr (.int .i64) (.int .i64))), .nil (.st (.pr (.int .i64) (.int .i64))), .nil (.st (.pr (.int .i64) (.int .i64))), .d (.int .i64) (0 : Int)]),
 (70, .one none (.junk)),
 (71, .one none (.junk)),
 (72, .one none (.junk)),
 (74, .one none (.junk)),
 (75, .one none (.junk)),
 (76, .agg [(0, 25), (1, 3)] 2 (some (.st (.pr (.int .i64) (.int .i64)))) [.d (.int .i64) (0 : Int), .d (.int .i64) (0 : Int)]),
 (77, .agg [(0, 25), (1, 3)] 2 (some (.st (.pr (.int .i64) (.int .i64)))) [.d (.int .i64) (0 : Int), .d (.int .i64) (0 : Int)]),
 (78, .one none (.junk)),
 (79, .one none (.junk)),
 (80, .one none (.junk)),
 (81, .one none (.junk)),
 (82, .agg [(0, 3), (1, 3)] 2 (some (.st (.pr (.int .i64) (.int .i64)))) [.d (.int .i64) (0 : Int), .d (.int .i64) (0 : Int)]),
 (83, .agg [(0, 3), (1, 3)] 2 (some (.st (.pr (.int .i64) (.int .i64)))) [.d (.int .i64) (0 : Int), .d (.int .i64) (0 : Int)]),
 (84, .agg [(0, 36), (1, 3)] 2 (some (.st (.pr (.sl (.int .i64)) (.int .i64)))) [.nil (.int .i64), .d (.int .i64) (0 : Int)]),
 (85, .agg [(0, 36), (1, 3)] 2 (some (.st (.pr (.sl (.int .i64)) (.int .i64)))) [.nil (.int .i64), .d (.int .i64) (0 : Int)]),
 (86, .one none (.junk)),
 (87, .one none (.junk)),
 (89, .one none (.junk)),
 (90, .one none (.junk)),
 (91, .one none (.junk)),
 (92, .one none (.junk)),
 (93, .one none (.junk)),
 (95, .one none (.junk)),
 (96, .one none (.junk)),
 (97, .one none (.junk)),
 (98, .one none (.junk)),
 (99, .one none (.junk)),
 (100, .agg [(0, 4), (1, 56), (2, 56)] 3 (some (.st (.pr (.bool) (.pr (.int .u64) (.int .u64))))) [.d .bool false, .d (.int .u64) (0 : Int), .d (.int .u64) (0 : Int)]),
 (101, .agg [(0, 4), (1, 56), (2, 56)] 3 (some (.st (.pr (.bool) (.pr (.int .u64) (.int .u64))))) [.d .bool false, .d (.int .u64) (0 : Int), .d (.int .u64) (0 : Int)]),
 (102, .one none (.junk)),
 (103, .one none (.junk)),
 (104, .one (some (.sl (.str))) (.nil (.str))),
 (105, .one none (.junk)),
 (106, .one none (.junk)),
 (107, .one none (.junk)),
 (108, .one none (.junk)),
 (109, .one none (.junk)),
 (110, .one none (.junk)),
 (111, .one none (.junk)),
 (112, .one none (.junk)),
 (113, .one none (.junk)),
 (114, .one none (.junk)),
 (115, .one (some (.sl (.int .u64))) (.nil (.int .u64))),
 (116, .one none (.junk)),
 (117, .one none (.junk)),
 (118, .one none (.junk)),
 (119, .one none (.junk)),
 (120, .one none (.junk)),
 (121, .one (some (.sl (.sl (.st (.pr (.int .i64) (.int .i64)))))) (.nil (.sl (.st (.pr (.int .i64) (.int .i64)))))),
 (122, .one none (.junk)),
 (123, .one none (.junk)),
 (124, .one none (.junk)),
 (125, .one (some (.int .u64)) (.d (.int .u64) (0 : Int))),
 (126, .one none (.junk)),
 (127, .one none (.junk)),
 (128, .one none (.junk)),
 (129, .arr 56 2 2 (some (.st (.pr (.int .u64) (.int .u64)))) [.d (.int .u64) (0 : Int), .d (.int .u64) (0 : Int)]),
 (130, .one none (.junk)),
 (131, .one none (.junk)),
 (132, .one none (.junk)),
 (133, .one none (.junk)),
 (134, .agg [(0, 17), (1, 17), (2, 17), (3, 9)] 4 none [.np, .np, .np, .d .str ⟨#[]⟩]),
 (135, .agg [(0, 17), (1, 17), (2, 17), (3, 9)] 4 none [.np, .np, .np, .d .str ⟨#[]⟩]),
 (136, .arr 16 0 0 none []),
 (139, .one none (.junk)),
 (140, .one (some (.int .u32)) (.d (.int .u32) (0 : Int))),
 (141, .one (some (.int .u8)) (.d (.int .u8) (0 : Int))),
 (142, .one (some (.int .u8)) (.d (.int .u8) (0 : Int))),
 (143, .one none (.junk)),
 (144, .one none (.np)),
 (145, .one (some (.int .i32)) (.d (.int .i32) (0 : Int))),
 (146, .one (some (.int .i32)) (.d (.int .i32) (0 : Int))),
 (147, .agg [(0, 12), (1, 12), (2, 140), (3, 141), (4, 5), (5, 5), (6, 142), (7, 143), (8, 144), (9, 145), (10, 146)] 11 none [.d (.int .u64) (0 : Int), .d (.int .u64) (0 : Int), .d (.int .u32) (0 : Int), .d (.int .u8) (0 : Int), .d (.int .u8) (0 : Int), .d (.int .u8) (0 : Int), .d (.int .u8) (0 : Int), .junk, .np, .d (.int .i32) (0 : Int), .d (.int .i32) (0 : Int)]),
 (148, .agg [(0, 12), (1, 12), (2, 140), (3, 141), (4, 5), (5, 5), (6, 142), (7, 143), (8, 144), (9, 145), (10, 146)] 11 none [.d (.int .u64) (0 : Int), .d (.int .u64) (0 : Int), .d (.int .u32) (0 : Int), .d (.int .u8) (0 : Int), .d (.int .u8) (0 : Int), .d (.int .u8) (0 : Int), .d (.int .u8) (0 : Int), .junk, .np, .d (.int .i32) (0 : Int), .d (.int .i32) (0 : Int)]),
 (149, .one none (.junk))]
@[reducible] def P : Program := Try.prog
def tysD : Tys := [(1, .one none (.junk)),
 (2, .one (some (.int .i64)) (.d (.int .i64) (0 : Int))),
 (3, .one (some (.int .i64)) (.d (.int .i64) (0 : Int))),
 (4, .one (some (.bool)) (.d .bool false)),
 (5, .one (some (.int .u8)) (.d (.int .u8) (0 : Int))),
 (6, .one (some (.int .u8)) (.d (.int .u8) (0 : Int))),
 (7, .agg [(0, 2), (1, 3), (2, 4), (3, 6)] 4 (some (.st (.pr (.int .i64) (.pr (.int .i64) (.pr (.bool) (.int .u8)))))) [.d (.int .i64) (0 : Int), .d (.int .i64) (0 : Int), .d .bool false, .d (.int .u8) (0 : Int)]),
 (8, .agg [(0, 2), (1, 3), (2, 4), (3, 6)] 4 (some (.st (.pr (.int .i64) (.pr (.int .i64) (.pr (.bool) (.int .u8)))))) [.d (.int .i64) (0 : Int), .d (.int .i64) (0 : Int), .d .bool false, .d (.int .u8) (0 : Int)]),
 (9, .one (some (.str)) (.d .str ⟨#[]⟩)),
 (10, .one (some (.str)) (.d .str ⟨#[]⟩)),
 (11, .one (some (.str)) (.d .str ⟨#[]⟩)),
 (12, .one (some (.int .u64)) (.d (.int .u64) (0 : Int))),
 (15, .one none (.np)),
 (16, .one none (.np)),
 (17, .one none (.np)),
 (18, .agg [(0, 17)] 1 none [.np]),
 (19, .agg [(0, 17)] 1 none [.np]),
 (21, .one (some (.int .i32)) (.d (.int .i32) (0 : Int))),
 (22, .one (some (.sl (.sl (.int .i64)))) .nil0),
 (23, .one none (.junk)),
 (24, .one none (.junk)),
 (25, .one (some (.int .i64)) (.d (.int .i64) (0 : Int))),
 (27, .one none (.junk)),
 (28, .one none (.junk)),
 (29, .one none (.junk)),
 (30, .one (some (.sl (.st (.pr (.str) (.pr (.int .i64) (.int .i64)))))) (.nil (.st (.pr (.str) (.pr (.int .i64) (.int .i64)))))),
 (31, .one (some (.sl (.st (.pr (.str) (.pr (.sl (.st (.pr (.int .i64) (.int .i64)))) (.pr (.sl (.st (.pr (.int .i64) (.int .i64)))) (.pr (.sl (.st (.pr (.int .i64) (.int .i64)))) (.int .i64)))))))) (.nil (.st (.pr (.str) (.pr (.sl (.st (.pr (.int .i64) (.int .i64)))) (.pr (.sl (.st (.pr (.int .i64) (.int .i64)))) (.pr (.sl (.st (.pr (.int .i64) (.int .i64)))) (.int .i64)))))))),
 (32, .agg [(0, 9), (1, 30), (2, 31)] 3 (some (.st (.pr (.str) (.pr (.sl (.st (.pr (.str) (.pr (.int .i64) (.int .i64))))) (.sl (.st (.pr (.str) (.pr (.sl (.st (.pr (.int .i64) (.int .i64)))) (.pr (.sl (.st (.pr (.int .i64) (.int .i64)))) (.pr (.sl (.st (.pr (.int .i64) (.int .i64)))) (.int .i64))))))))))) [.d .str ⟨#[]⟩, .nil (.st (.pr (.str) (.pr (.int .i64) (.int .i64)))), .nil (.st (.pr (.str) (.pr (.sl (.st (.pr (.int .i64) (.int .i64)))) (.pr (.sl (.st (.pr (.int .i64) (.int .i64)))) (.pr (.sl (.st (.pr (.int .i64) (.int .i64)))) (.int .i64))))))]),
 (33, .agg [(0, 9), (1, 30), (2, 31)] 3 (some (.st (.pr (.str) (.pr (.sl (.st (.pr (.str) (.pr (.int .i64) (.int .i64))))) (.sl (.st (.pr (.str) (.pr (.sl (.st (.pr (.int .i64) (.int .i64)))) (.pr (.sl (.st (.pr (.int .i64) (.int .i64)))) (.pr (.sl (.st (.pr (.int .i64) (.int .i64)))) (.int .i64))))))))))) [.d .str ⟨#[]⟩, .nil (.st (.pr (.str) (.pr (.int .i64) (.int .i64)))), .nil (.st (.pr (.str) (.pr (.sl (.st (.pr (.int .i64) (.int .i64)))) (.pr (.sl (.st (.pr (.int .i64) (.int .i64)))) (.pr (.sl (.st (.pr (.int .i64) (.int .i64)))) (.int .i64))))))]),
 (34, .one none (.junk)),
 (35, .one none (.junk)),
 (36, .one (some (.sl (.int .i64))) (.nil (.int .i64))),
 (38, .one none (.junk)),
 (39, .one none (.junk)),
 (40, .one none (.junk)),
 (41, .one none (.junk)),
 (42, .one none (.junk)),
 (43, .one none (.junk)),
 (44, .one none (.junk)),
 (45, .one (some (.sl (.int .i64))) (.nil (.int .i64))),
 (46, .one none (.junk)),
 (48, .one none (.junk)),
 (49, .one none (.junk)),
 (50, .one none (.junk)),
 (51, .one (some (.sl (.st (.pr (.sl (.int .i64)) (.int .i64))))) (.nil (.st (.pr (.sl (.int .i64)) (.int .i64))))),
 (52, .one none (.junk)),
 (54, .one none (.junk)),
 (55, .one none (.junk)),
 (56, .one (some (.int .u64)) (.d (.int .u64) (0 : Int))),
 (57, .one none (.junk)),
 (59, .one none (.junk)),
 (61, .one none (.junk)),
 (62, .one none (.junk)),
 (64, .one none (.junk)),
 (65, .agg [(0, 9), (1, 3), (2, 3)] 3 (some (.st (.pr (.str) (.pr (.int .i64) (.int .i64))))) [.d .str ⟨#[]⟩, .d (.int .i64) (0 : Int), .d (.int .i64) (0 : Int)]),
 (66, .agg [(0, 9), (1, 3), (2, 3)] 3 (some (.st (.pr (.str) (.pr (.int .i64) (.int .i64))))) [.d .str ⟨#[]⟩, .d (.int .i64) (0 : Int), .d (.int .i64) (0 : Int)]),
 (67, .one (some (.sl (.st (.pr (.int .i64) (.int .i64))))) (.nil (.st (.pr (.int .i64) (.int .i64))))),
 (68, .agg [(0, 9), (1, 67), (2, 67), (3, 67), (4, 3)] 5 (some (.st (.pr (.str) (.pr (.sl (.st (.pr (.int .i64) (.int .i64)))) (.pr (.sl (.st (.pr (.int .i64) (.int .i64)))) (.pr (.sl (.st (.pr (.int .i64) (.int .i64)))) (.int .i64))))))) [.d .str ⟨#[]⟩, .nil (.st (.pr (.int .i64) (.int .i64))), .nil (.st (.pr (.int .i64) (.int .i64))), .nil (.st (.pr (.int .i64) (.int .i64))), .d (.int .i64) (0 : Int)]),
 (69, .agg [(0, 9), (1, 67), (2, 67), (3, 67), (4, 3)] 5 (some (.st (.pr (.str) (.pr (.sl (.st (.pr (.int .i64) (.int .i64)))) (.pr (.sl (.st (.pr (.int .i64) (.int .i64)))) (.pr (.sl (.st (.pr (.int .i64) (.int .i64)))) (.int .i64))))))) [.d .str ⟨#[]⟩, .nil (.st (.pr (.int .i64) (.int .i64))), .nil (.st (.pr (.int .i64) (.int .i64))), .nil (.st (.pr (.int .i64) (.int .i64))), .d (.int .i64) (0 : Int)]),
 (70, .one none (.junk)),
 (71, .one none (.junk)),
 (72, .one none (.junk)),
 (74, .one none (.junk)),
 (75, .one none (.junk)),
 (76, .agg [(0, 25), (1, 3)] 2 (some (.st (.pr (.int .i64) (.int .i64)))) [.d (.int .i64) (0 : Int), .d (.int .i64) (0 : Int)]),
 (77, .agg [(0, 25), (1, 3)] 2 (some (.st (.pr (.int .i64) (.int .i64)))) [.d (.int .i64) (0 : Int), .d (.int .i64) (0 : Int)]),
 (78, .one none (.junk)),
 (79, .one none (.junk)),
 (80, .one none (.junk)),
 (81, .one none (.junk)),
 (82, .agg [(0, 3), (1, 3)] 2 (some (.st (.pr (.int .i64) (.int .i64)))) [.d (.int .i64) (0 : Int), .d (.int .i64) (0 : Int)]),
 (83, .agg [(0, 3), (1, 3)] 2 (some (.st (.pr (.int .i64) (.int .i64)))) [.d (.int .i64) (0 : Int), .d (.int .i64) (0 : Int)]),
 (84, .agg [(0, 36), (1, 3)] 2 (some (.st (.pr (.sl (.int .i64)) (.int .i64)))) [.nil (.int .i64), .d (.int .i64) (0 : Int)]),
 (85, .agg [(0, 36), (1, 3)] 2 (some (.st (.pr (.sl (.int .i64)) (.int .i64)))) [.nil (.int .i64), .d (.int .i64) (0 : Int)]),
 (86, .one none (.junk)),
 (87, .one none (.junk)),
 (89, .one none (.junk)),
 (90, .one none (.junk)),
 (91, .one none (.junk)),
 (92, .one none (.junk)),
 (93, .one none (.junk)),
 (95, .one none (.junk)),
 (96, .one none (.junk)),
 (97, .one none (.junk)),
 (98, .one none (.junk)),
 (99, .one none (.junk)),
 (100, .agg [(0, 4), (1, 56), (2, 56)] 3 (some (.st (.pr (.bool) (.pr (.int .u64) (.int .u64))))) [.d .bool false, .d (.int .u64) (0 : Int), .d (.int .u64) (0 : Int)]),
 (101, .agg [(0, 4), (1, 56), (2, 56)] 3 (some (.st (.pr (.bool) (.pr (.int .u64) (.int .u64))))) [.d .bool false, .d (.int .u64) (0 : Int), .d (.int .u64) (0 : Int)]),
 (102, .one none (.junk)),
 (103, .one none (.junk)),
 (104, .one (some (.sl (.str))) (.nil (.str))),
 (105, .one none (.junk)),
 (106, .one none (.junk)),
 (107, .one none (.junk)),
 (108, .one none (.junk)),
 (109, .one none (.junk)),
 (110, .one none (.junk)),
 (111, .one none (.junk)),
 (112, .one none (.junk)),
 (113, .one none (.junk)),
 (114, .one none (.junk)),
 (115, .one (some (.sl (.int .u64))) (.nil (.int .u64))),
 (116, .one none (.junk)),
 (117, .one none (.junk)),
 (118, .one none (.junk)),
 (119, .one none (.junk)),
 (120, .one none (.junk)),
 (121, .one (some (.sl (.sl (.st (.pr (.int .i64) (.int .i64)))))) .nil0),
 (122, .one none (.junk)),
 (123, .one none (.junk)),
 (124, .one none (.junk)),
 (125, .one (some (.int .u64)) (.d (.int .u64) (0 : Int))),
 (126, .one none (.junk)),
 (127, .one none (.junk)),
 (128, .one none (.junk)),
 (129, .arr 56 2 2 (some (.st (.pr (.int .u64) (.int .u64)))) [.d (.int .u64) (0 : Int), .d (.int .u64) (0 : Int)]),
 (130, .one none (.junk)),
 (131, .one none (.junk)),
 (132, .one none (.junk)),
 (133, .one none (.junk)),
 (134, .agg [(0, 17), (1, 17), (2, 17), (3, 9)] 4 none [.np, .np, .np, .d .str ⟨#[]⟩]),
 (135, .agg [(0, 17), (1, 17), (2, 17), (3, 9)] 4 none [.np, .np, .np, .d .str ⟨#[]⟩]),
 (136, .arr 16 0 0 none []),
 (139, .one none (.junk)),
 (140, .one (some (.int .u32)) (.d (.int .u32) (0 : Int))),
 (141, .one (some (.int .u8)) (.d (.int .u8) (0 : Int))),
 (142, .one (some (.int .u8)) (.d (.int .u8) (0 : Int))),
 (143, .one none (.junk)),
 (144, .one none (.np)),
 (145, .one (some (.int .i32)) (.d (.int .i32) (0 : Int))),
 (146, .one (some (.int .i32)) (.d (.int .i32) (0 : Int))),
 (147, .agg [(0, 12), (1, 12), (2, 140), (3, 141), (4, 5), (5, 5), (6, 142), (7, 143), (8, 144), (9, 145), (10, 146)] 11 none [.d (.int .u64) (0 : Int), .d (.int .u64) (0 : Int), .d (.int .u32) (0 : Int), .d (.int .u8) (0 : Int), .d (.int .u8) (0 : Int), .d (.int .u8) (0 : Int), .d (.int .u8) (0 : Int), .junk, .np, .d (.int .i32) (0 : Int), .d (.int .i32) (0 : Int)]),
 (148, .agg [(0, 12), (1, 12), (2, 140), (3, 141), (4, 5), (5, 5), (6, 142), (7, 143), (8, 144), (9, 145), (10, 146)] 11 none [.d (.int .u64) (0 : Int), .d (.int .u64) (0 : Int), .d (.int .u32) (0 : Int), .d (.int .u8) (0 : Int), .d (.int .u8) (0 : Int), .d (.int .u8) (0 : Int), .d (.int .u8) (0 : Int), .junk, .np, .d (.int .i32) (0 : Int), .d (.int .i32) (0 : Int)]),
 (149, .one none (.junk))]
theorem tysDOk : tysB P tysD = true := by kernel_rfl
theorem tysOk : tysB P tys = true := by kernel_rfl
theorem mixedOk : P.follows .mixedOrders = true := by kernel_rfl
end Go.VI
namespace Go.VI
open Go Go.Proofs
def bigL {α : Type} (l : List α) : Bool := decide (l.length ≤ 1073741824)
def inI64 (x : Int) : Bool := decide (-9223372036854775808 ≤ x) && decide (x ≤ 9223372036854775807)
def chk (x : Int) : Int × Bool := cond (inI64 x) (x, true) (0, false)
def safeint_Add.spec (a b : Int) : Int × Bool := chk (a + b)
def safeint_Sub.spec (a b : Int) : Int × Bool := chk (a - b)
def vecOp (op : Int → Int → Int) : List Int → List Int → Option (List Int)
 | x :: xs, y :: ys => cond (inI64 (op x y)) ((vecOp op xs ys).map (op x y :: ·)) none
 | _, _ => some []
def vecRes (op : Int → Int → Int) (a b : List Int) : List Int × Int := cond (Nat.beq a.length b.length) (match vecOp op a b with
 | some r => (r, 0)
 | none => ([], 3)) ([], 2)
def vector_Add.pre (a b : List Int) : Bool := decide (a.length ≤ 1073741824)
def vector_Add.spec (a b : List Int) : List Int × Int := vecRes (· + ·) a b
def pf01_Abs.spec (a : Int) : Int := cond (decide (a < 0)) (-a) a
def pf01_Plus.spec (a b : Int) : Bool × Int × Int := (decide (a + b < 0), cond (decide (a + b = -18446744073709551616)) 1 0, cond (decide (a + b = -18446744073709551616)) 0 (cond (decide (a + b < 0)) (-(a + b)) (a + b)))
def pf01_Narrow.spec (w : Bool × Int × Int) : Int × Bool := chk (cond w.1 (-(w.2.1 * 18446744073709551616 + w.2.2)) (w.2.1 * 18446744073709551616 + w.2.2))
def pf01_Add.spec (a b : Int) : Int × Bool := chk (a + b)
def pf08_Vectors.spec (a b : List Int) : Bool := decide (a = b)
def safeint_size.spec (a : Int) : Int := (a.natAbs : Int)
def safeint_signed.spec (n : Int) (neg : Bool) : Int × Bool := cond neg (cond (decide (n ≤ 9223372036854775808)) (-n, true) (0, false)) (cond (decide (n ≤ 9223372036854775807)) (n, true) (0, false))
def safeint_common.spec (a b : Int) : Int := (Int.gcd a b : Int)
def safeint_Mul.spec (a b : Int) : Int × Bool := chk (a * b)
def safeint_Gcd.spec (a b : Int) : Int × Bool := chk (Int.gcd a b : Int)
def comb1 (i k x y : Int) : Option Int := cond (inI64 (x * i) && inI64 (y * k) && inI64 (x * i + y * k)) (some (x * i + y * k)) none
def combL (i k : Int) : List Int → List Int → Option (List Int)
 | x :: xs, y :: ys => match comb1 i k x y with
  | some z => (combL i k xs ys).map (z :: ·)
  | none => none
 | _, _ => some []
def combS (a : List Int) (i : Int) (b : List Int) (k : Int) : List Int × Int := cond (Nat.beq a.length b.length) (match combL i k a b with
 | some r => (r, 0)
 | none => ([], 3)) ([], 2)
def vector_Combine.pre (a : List Int) (i : Int) (b : List Int) (k : Int) : Bool := bigL a
def vector_Combine.spec (a : List Int) (i : Int) (b : List Int) (k : Int) : List Int × Int := combS a i b k
def gcdL (l : List Int) : Nat := l.foldl (fun g x => Int.gcd g x) 0
def primS (a : List Int) : List Int × Int := cond (a.any fun x => x == -9223372036854775808) ([], 3) (a.map fun x => x.tdiv (gcdL a : Int), 0)
def vector_Prim.pre (a : List Int) : Bool := bigL a
def vector_Prim.spec (a : List Int) : List Int × Int := primS a
def suppL : Int → List Int → List Int
 | _, [] => []
 | i, x :: l => cond (x == 0) (suppL (i + 1) l) (i :: suppL (i + 1) l)
def vector_Support.pre (a : List Int) : Bool := bigL a
def vector_Support.spec (a : List Int) : List Int := suppL 0 a
def cmpL : List Int → List Int → Int
 | [], [] => 0
 | [], _ :: _ => -1
 | _ :: _, [] => 1
 | x :: a, y :: b => cond (decide (x < y)) (-1) (cond (decide (y < x)) 1 (cmpL a b))
def vector_Compare.spec (a b : List Int) : Int := cmpL a b
def pf03_Compare.spec (a b : List Int) : Int := cmpL a b
def validM (a : List (List Int)) : Bool := decide (1 ≤ a.length) && decide (a.length ≤ 64) && (a.all fun r => decide (r.length = (a.headD []).length)) && decide (1 ≤ (a.headD []).length) && decide ((a.headD []).length ≤ 64)
def matrix_Valid.spec (a : List (List Int)) : Bool := validM a
def pf08_Valid.spec (a : List (List Int)) : Bool := validM a
def safeint_times.spec (a b : Int) : Int × Int := (a * b / 18446744073709551616, a * b % 18446744073709551616)
def net_Incidence.spec (n : BA × List (BA × Int × Int) × List (BA × List (Int × Int) × List (Int × Int) × List (Int × Int) × Int)) : List (List Int) :=
 n.2.1.length.fold (fun p _ acc => acc ++ [n.2.2.map fun t => ((t.2.2.1.find? fun a => a.1 == (p : Int)).elim 0 (·.2)) - ((t.2.1.find? fun a => a.1 == (p : Int)).elim 0 (·.2))]) []
def matrix_Transpose.spec (a : List (List Int)) : List (List Int) := (List.range (a.headD []).length).map fun c => a.map fun r => r.getD c 0
abbrev ArcT := Int × Int
abbrev PlaceT := BA × Int × Int
abbrev TransT := BA × List (Int × Int) × List (Int × Int) × List (Int × Int) × Int
abbrev NetT := BA × List (BA × Int × Int) × List (BA × List (Int × Int) × List (Int × Int) × List (Int × Int) × Int)
def letterB (c : UInt8) : Bool := (Nat.ble 97 c.toNat && Nat.ble c.toNat 122) || Nat.beq c.toNat 95
def otherB (c : UInt8) : Bool := (Nat.ble 48 c.toNat && Nat.ble c.toNat 57) || Nat.beq c.toNat 46
def nameL : List UInt8 → Bool
 | [] => false
 | c :: l => letterB c && (l.all fun c => letterB c || otherB c)
def nameOk (s : BA) : Bool := Nat.ble s.data.toList.length 16 && nameL s.data.toList
def net_Name.spec (s : BA) : Bool := nameOk s
def pf09_Name.spec (s : BA) : Bool := nameOk s
def arcsE (np : Int) : Option Int → List (Int × Int) → Int
 | _, [] => 0
 | prev, a :: l => cond (decide (a.1 < 0) || decide (np ≤ a.1)) 7 (cond (match prev with | some q => decide (a.1 ≤ q) | none => false) 8 (cond (decide (a.2 < 1) || decide (99 < a.2)) 9 (arcsE np (some a.1) l)))
def net_checkArcs.spec (l : List (Int × Int)) (np : Int) : Int := arcsE np none l
def placeE (p : BA × Int × Int) : Int := cond (decide (p.2.2 < 0) || decide (1048576 < p.2.2)) 1 (cond ((decide (p.2.1 < 0) || decide (1048576 < p.2.1)) || (!(p.2.2 == 0) && decide (p.2.2 < p.2.1))) 10 0)
def net_checkPlace.spec (p : BA × Int × Int) : Int := placeE p
def transE (t : TransT) (np : Int) : Int := cond (decide (t.2.2.2.2 < 0) || decide (9 < t.2.2.2.2)) 1 (cond (arcsE np none t.2.1 == 0) (cond (arcsE np none t.2.2.1 == 0) (arcsE np none t.2.2.2.1) (arcsE np none t.2.2.1)) (arcsE np none t.2.1))
def net_checkTrans.spec (t : TransT) (np : Int) : Int := transE t np
def marking_Valid.spec (m : List Int) (n : Int) : Bool := decide ((m.length : Int) = n) && m.all fun k => decide (0 ≤ k) && decide (k ≤ 1048576)
def addE (names : List BA) (s : BA) : Int := cond (nameOk s) (cond (names.any fun o => sEq o s) 6 0) 5
def placesE : List BA → Int → List (BA × Int × Int) → Option (Int × Int)
 | _, _, [] => none
 | names, i, p :: l => cond (addE names p.1 == 0) (cond (placeE p == 0) (placesE (names ++ [p.1]) (i + 1) l) (some (placeE p, i))) (some (addE names p.1, i))
def transesE (np : Int) : List BA → Int → List TransT → Option (Int × Int)
 | _, _, [] => none
 | names, i, t :: l => cond (addE names t.1 == 0) (cond (transE t np == 0) (transesE np (names ++ [t.1]) (i + 1) l) (some (transE t np, np + i))) (some (addE names t.1, np + i))
def checkN (n : NetT) : Int × Int := cond (nameOk n.1) (cond (decide (n.2.1.length < 1) || decide (24 < n.2.1.length) || decide (24 < n.2.2.length)) (2, 0) (match placesE [] 0 n.2.1 with
 | some r => r
 | none => match transesE (n.2.1.length : Int) (n.2.1.map (·.1)) 0 n.2.2 with
  | some r => r
  | none => (0, 0))) (5, 0)
def net_Check.spec (n : NetT) : Int × Int := checkN n
def weightS : List (Int × Int) → Int → Int
 | [], _ => 0
 | a :: l, p => cond (a.1 == p) a.2 (weightS l p)
def net_weight.spec (l : List (Int × Int)) (p : Int) : Int := weightS l p
def pf09_Weight.spec (l : List (Int × Int)) (p : Int) : Int := weightS l p
def pf09_arcs.spec (n : NetT) (l : List (Int × Int)) : Int := arcsE (n.2.1.length : Int) none l
def plAt (n : NetT) (i : Int) : BA × Int × Int := n.2.1.getD i.toNat (eBA, 0, 0)
def trAt (n : NetT) (i : Int) : TransT := n.2.2.getD i.toNat (eBA, [], [], [], 0)
def pf09_place.pre (n : NetT) (i : Int) : Bool := decide (0 ≤ i) && decide (i < (n.2.1.length : Int))
def pf09_place.spec (n : NetT) (i : Int) : Int := cond (addE ((n.2.1.take i.toNat).map (·.1)) (plAt n i).1 == 0) (placeE (plAt n i)) (addE ((n.2.1.take i.toNat).map (·.1)) (plAt n i).1)
def pf09_trans.pre (n : NetT) (i : Int) : Bool := decide (0 ≤ i) && decide (i < (n.2.2.length : Int))
def pf09_trans.spec (n : NetT) (i : Int) : Int := cond (addE (n.2.1.map (·.1) ++ (n.2.2.take i.toNat).map (·.1)) (trAt n i).1 == 0) (transE (trAt n i) (n.2.1.length : Int)) (addE (n.2.1.map (·.1) ++ (n.2.2.take i.toNat).map (·.1)) (trAt n i).1)
def pf09_Check.spec (n : NetT) : Int × Int := checkN n
def net_valid.spec (n : NetT) : Bool := (checkN n).1 == 0
def pf09_Valid.spec (n : NetT) : Bool := (checkN n).1 == 0
def noNet : NetT := (eBA, [], [])
def firstI {α : Type} (f : α → Bool) : Int → List α → Int
 | _, [] => -1
 | i, a :: l => cond (f a) i (firstI f (i + 1) l)
def placeI (n : NetT) (s : BA) : Int := cond ((checkN n).1 == 0) (firstI (fun p => sEq p.1 s) 0 n.2.1) (-1)
def transI (n : NetT) (s : BA) : Int := cond ((checkN n).1 == 0) (firstI (fun t => sEq t.1 s) 0 n.2.2) (-1)
def net_Place.spec (n : NetT) (s : BA) : Int := placeI n s
def net_Trans.spec (n : NetT) (s : BA) : Int := transI n s
def plainN (n : NetT) : Bool := (n.2.2.all fun t => List.isEmpty t.2.2.2.1 && t.2.2.2.2 == 0) && (n.2.1.all fun p => p.2.2 == 0) && (checkN n).1 == 0
def net_Plain.spec (n : NetT) : Bool := plainN n
def pf09_Plain.spec (n : NetT) : Bool := plainN n
def knownN (n : NetT) (s : BA) : Bool := (n.2.1.any fun p => sEq p.1 s) || n.2.2.any fun t => sEq t.1 s
def over (n : NetT) (m : List Int) : Bool := (n.2.1.zip m).any fun q => !(q.1.2.2 == 0) && decide (q.1.2.2 < q.2)
def startN (n : NetT) (m : List Int) : NetT := (n.1, List.zipWith (fun p k => (p.1, k, p.2.2)) n.2.1 m, n.2.2)
def startE (n : NetT) (m : List Int) : NetT × Int := cond ((checkN n).1 == 0) (cond (marking_Valid.spec m (n.2.1.length : Int)) (cond (over n m) (noNet, 10) (startN n m, 0)) (noNet, 10)) (noNet, (checkN n).1)
def tf_Start.spec (n : NetT) (m : List Int) : NetT × Int := startE n m
def pf12_Start.spec (n : NetT) (m : List Int) : NetT × Int := startE n m
def revT (t : TransT) : TransT := (t.1, t.2.2.1, t.2.1, t.2.2.2.1, t.2.2.2.2)
def revE (n : NetT) : NetT × Int := cond ((checkN n).1 == 0) (cond (plainN n) ((n.1, n.2.1, n.2.2.map revT), 0) (noNet, 12)) (noNet, (checkN n).1)
def tf_Reverse.spec (n : NetT) : NetT × Int := revE n
def pf12_Reverse.spec (n : NetT) : NetT × Int := revE n
def pf04_Valid.spec (m : List Int) (n : Int) : Bool := marking_Valid.spec m n
def pf04_Same.spec (a b : List Int) : Bool := a == b
def tf_clone.pre (l : List (Int × Int)) : Bool := bigL l
def tf_clone.spec (l : List (Int × Int)) : List (Int × Int) := l
def pf12_copied.pre (l : List (Int × Int)) : Bool := bigL l
def pf12_copied.spec (l : List (Int × Int)) : List (Int × Int) := l
def tf_weight.spec (l : List (Int × Int)) (p : Int) : Int := weightS l p
def tf_samePlace.spec (i : Int) (p : PlaceT) : PlaceT := p
def tf_Reverse_1.spec (t : TransT) : TransT := revT t
def tf_Start_1.pre (i : Int) (p : PlaceT) (m : List Int) : Bool := decide (0 ≤ i) && decide (i < (m.length : Int))
def tf_Start_1.spec (i : Int) (p : PlaceT) (m : List Int) : PlaceT := (p.1, m.getD i.toNat 0, p.2.2)
def tf_Start_2.spec (t : TransT) : TransT := t
def tf_Union_2.spec (t : TransT) : TransT := t
def tf_Union_1.spec (s : BA) (a : NetT) : Bool := (checkN a).1 == 0 && knownN a s
def shiftL (l : List (Int × Int)) (k : Int) : List (Int × Int) := l.map fun a => (IntKind.i64.wrap (a.1 + k), a.2)
def tf_shift.pre (l : List (Int × Int)) (k : Int) : Bool := bigL l
def tf_shift.spec (l : List (Int × Int)) (k : Int) : List (Int × Int) := shiftL l k
def pf12_moved.pre (l : List (Int × Int)) (k : Int) : Bool := bigL l
def pf12_moved.spec (l : List (Int × Int)) (k : Int) : List (Int × Int) := shiftL l k
def pf12_known.spec (n : NetT) (s : BA) : Bool := knownN n s
def hasB (s i : Int) : Bool := decide (0 ≤ i) && decide (i < 64) && decide (s / 2 ^ i.toNat % 2 = 1)
def bitset_Has.spec (s i : Int) : Bool := hasB s i
def pf06_Has.spec (s i : Int) : Bool := hasB s i
def rankN (s : Int) : Nat → Nat
 | 0 => 0
 | k + 1 => rankN s k + (cond (hasB s (k : Int)) 1 0)
def keptL (s : Int) (l : List (Int × Int)) : List (Int × Int) := l.filterMap fun a => cond (hasB s a.1) (some ((rankN s a.1.toNat : Int), a.2)) none
def pf12_rank.spec (s i : Int) : Int := (rankN s i.toNat : Int)
def pf12_kept.pre (l : List (Int × Int)) (s : Int) : Bool := bigL l
def pf12_kept.spec (l : List (Int × Int)) (s : Int) : List (Int × Int) := keptL s l
def tf_Subnet_1.pre (l : List (Int × Int)) (ix : List Int) : Bool := bigL l && l.all fun a => decide (0 ≤ a.1) && decide (a.1 < (ix.length : Int))
def tf_Subnet_1.spec (l : List (Int × Int)) (ix : List Int) : List (Int × Int) := l.filterMap fun a => cond (decide (0 ≤ ix.getD a.1.toNat 0)) (some (ix.getD a.1.toNat 0, a.2)) none
def filtB {α : Type} (s : Int) : Int → List α → List α
 | _, [] => []
 | i, a :: l => cond (hasB s i) (a :: filtB s (i + 1) l) (filtB s (i + 1) l)
def keptT (s : Int) (t : TransT) : TransT := (t.1, keptL s t.2.1, keptL s t.2.2.1, keptL s t.2.2.2.1, t.2.2.2.2)
def subE (n : NetT) (ps ts : Int) : NetT × Int := cond ((checkN n).1 == 0) (cond (List.isEmpty (filtB ps 0 n.2.1)) (noNet, 19) ((n.1, filtB ps 0 n.2.1, (filtB ts 0 n.2.2).map (keptT ps)), 0)) (noNet, (checkN n).1)
def tf_Subnet.spec (n : NetT) (ps ts : Int) : NetT × Int := subE n ps ts
def pf12_Subnet.spec (n : NetT) (ps ts : Int) : NetT × Int := subE n ps ts
def pf12_Copy.spec (n : NetT) : NetT := n
def shiftT (k : Int) (t : TransT) : TransT := (t.1, shiftL t.2.1 k, shiftL t.2.2.1 k, shiftL t.2.2.2.1 k, t.2.2.2.2)
def unionE (a b : NetT) : NetT × Int := cond ((checkN a).1 == 0) (cond ((checkN b).1 == 0) (cond (decide (24 < a.2.1.length + b.2.1.length) || decide (24 < a.2.2.length + b.2.2.length)) (noNet, 2)
  (cond ((b.2.1.any fun p => knownN a p.1) || b.2.2.any fun t => knownN a t.1) (noNet, 6) ((a.1, a.2.1 ++ b.2.1, a.2.2 ++ b.2.2.map (shiftT (a.2.1.length : Int))), 0))) (noNet, (checkN b).1)) (noNet, (checkN a).1)
def tf_Union.spec (a b : NetT) : NetT × Int := unionE a b
def pf12_Union.spec (a b : NetT) : NetT × Int := unionE a b
def arcsTo (f : TransT → List (Int × Int)) (p : Int) : Int → List TransT → List (Int × Int)
 | _, [] => []
 | k, t :: l => cond (decide (0 < weightS (f t) p)) ((k, weightS (f t) p) :: arcsTo f p (k + 1) l) (arcsTo f p (k + 1) l)
def dualT (ts : List TransT) : Int → List PlaceT → List TransT
 | _, [] => []
 | i, p :: l => (p.1, arcsTo (fun t => t.2.2.1) i 0 ts, arcsTo (fun t => t.2.1) i 0 ts, [], 0) :: dualT ts (i + 1) l
def dualE (n : NetT) : NetT × Int := cond ((checkN n).1 == 0) (cond (plainN n) (cond (List.isEmpty n.2.2) (noNet, 2) ((n.1, n.2.2.map fun t => (t.1, 0, 0), dualT n.2.2 0 n.2.1), 0)) (noNet, 12)) (noNet, (checkN n).1)
def tf_Dual.spec (n : NetT) : NetT × Int := dualE n
def pf12_Dual.spec (n : NetT) : NetT × Int := dualE n
def plainE (n : NetT) : Int := cond ((checkN n).1 == 0) (cond (plainN n) 0 12) (checkN n).1
def tf_checkPlain.spec (n : NetT) : Int := plainE n
def pf12_plain.spec (n : NetT) : Int := plainE n
def pf09_SameArcs.spec (a b : List (Int × Int)) : Bool := decide (a = b)
def placeQ (p q : PlaceT) : Bool := sEq p.1 q.1 && (p.2.1 == q.2.1 && p.2.2 == q.2.2)
def transQ (x y : TransT) : Bool := sEq x.1 y.1 && x.2.2.2.2 == y.2.2.2.2 && decide (x.2.1 = y.2.1) && decide (x.2.2.1 = y.2.2.1) && decide (x.2.2.2.1 = y.2.2.2.1)
def allQ {α : Type} (f : α → α → Bool) : List α → List α → Bool
 | [], [] => true
 | x :: l, y :: m => f x y && allQ f l m
 | _, _ => false
def equalN (a b : NetT) : Bool := sEq a.1 b.1 && allQ placeQ a.2.1 b.2.1 && allQ transQ a.2.2 b.2.2
def pf09_Equal.spec (a b : NetT) : Bool := equalN a b
def smallN (n : NetT) : Bool := (decide (n.2.1.length ≤ 26) && decide (n.2.2.length ≤ 26) && decide (n.1.data.toList.length ≤ 20)) && (n.2.1.all fun p => decide (p.1.data.toList.length ≤ 20)) &&
 n.2.2.all fun t => decide (t.1.data.toList.length ≤ 20) && decide (t.2.1.length ≤ 26) && decide (t.2.2.1.length ≤ 26) && decide (t.2.2.2.1.length ≤ 26)
def pf09_Small.spec (n : NetT) : NetT × Bool := cond (smallN n) (n, true) (noNet, false)
def pf04_Copy.pre (l : List Int) : Bool := bigL l
def pf04_Copy.spec (l : List Int) : List Int := l
def pl12_lives.spec : Bool := true
def pl12_TransformParts.spec (n : NetT) (p : Int × Int) (m : List Int) : Bool := true
def pl12_TransformMirrors.spec (n : NetT) : Bool := true
def pl12_TransformUnions.spec (a b : NetT) : Bool := true
def pl12_TransformReturns.spec (n : NetT) : Bool := true
def pl12_TransformJoins.spec (a b : NetT) : Bool := true
def pl12_TransformStarts.spec (n : NetT) (m : List Int) : Bool := true
def allB (n : Int) : Int := 2 ^ (min n.toNat 64) - 1
def pl12_all.spec (n : Int) : Int := allB n
def digB (n : Int) : BA := cond (decide (n < 10)) ⟨#[UInt8.ofNat (48 + n.toNat)]⟩ ⟨#[UInt8.ofNat (48 + n.toNat / 10), UInt8.ofNat (48 + n.toNat % 10)]⟩
def strconv_Itoa.pre (n : Int) : Bool := decide (0 ≤ n) && decide (n < 100)
def strconv_Itoa.spec (n : Int) : BA := digB n
def pf12_digits.pre (n : Int) : Bool := decide (0 ≤ n) && decide (n < 100)
def pf12_digits.spec (n : Int) : BA := digB n
def tf_Complement_1.spec (i : Int) (p : PlaceT) : PlaceT := (p.1, p.2.1, 0)
def compK (t : TransT) (i : Int) (c : Int) : Int := cond (decide (0 < weightS t.2.2.2.1 i)) (max (max 0 (weightS t.2.2.1 i - weightS t.2.1 i)) (c - weightS t.2.2.2.1 i + 1)) (max 0 (weightS t.2.2.1 i - weightS t.2.1 i))
def compD (t : TransT) (i : Int) : Int := weightS t.2.2.1 i - weightS t.2.1 i
def compPre (t : TransT) : Int → Int → List PlaceT → List (Int × Int)
 | _, _, [] => []
 | a, i, p :: l => cond (p.2.2 == 0) (compPre t a (i + 1) l) (cond (decide (0 < compK t i p.2.2)) ((a, compK t i p.2.2) :: compPre t (a + 1) (i + 1) l) (compPre t (a + 1) (i + 1) l))
def compPost (t : TransT) : Int → Int → List PlaceT → List (Int × Int)
 | _, _, [] => []
 | a, i, p :: l => cond (p.2.2 == 0) (compPost t a (i + 1) l) (cond (decide (compD t i < compK t i p.2.2)) ((a, compK t i p.2.2 - compD t i) :: compPost t (a + 1) (i + 1) l) (compPost t (a + 1) (i + 1) l))
def compT (n : NetT) (t : TransT) : TransT := (t.1, t.2.1 ++ compPre t (n.2.1.length : Int) 0 n.2.1, t.2.2.1 ++ compPost t (n.2.1.length : Int) 0 n.2.1, [], t.2.2.2.2)
def tf_Complement_2.pre (t : TransT) (n : NetT) : Bool := (checkN n).1 == 0 && transE t (n.2.1.length : Int) == 0
def tf_Complement_2.spec (t : TransT) (n : NetT) : TransT := compT n t
def nz (i : Int) (v : List Int) : Bool := decide (i < (v.length : Int)) && !(v.getD i.toNat 0 == 0)
def coveredS (flows : List (List Int)) (k : Int) : Bool := (List.range k.toNat).all fun i => flows.any fun v => nz i v
def semiflow_Covered.spec (flows : List (List Int)) (k : Int) : Bool := coveredS flows k
def pf31_Covered.spec (flows : List (List Int)) (k : Int) : Bool := coveredS flows k
def sumVs : List Int → List (List Int) → List Int × Int
 | acc, [] => (acc, 0)
 | acc, v :: vs => match vecOp (· + ·) acc v with
  | some r => sumVs r vs
  | none => ([], 3)
def sumS (flows : List (List Int)) : List Int × Int := match flows with
 | [] => ([], 2)
 | v :: vs => cond (vs.all fun u => Nat.beq u.length v.length) (sumVs (List.replicate v.length 0) flows) ([], 2)
def semiflow_Sum.pre (flows : List (List Int)) : Bool := flows.all fun v => decide (v.length ≤ 1073741824)
def semiflow_Sum.spec (flows : List (List Int)) : List Int × Int := sumS flows
def pf31_Sum.pre (flows : List (List Int)) : Bool := flows.all fun v => decide (v.length ≤ 1073741824)
def pf31_Sum.spec (flows : List (List Int)) : List Int × Int := sumS flows
def pl31_short.spec (a : List (List Int)) : Bool := decide (a.length ≤ 20) && a.all fun r => decide (r.length ≤ 20)
def pl31_lives.spec : Bool := true
def pl31_SemiflowSums.spec (flows : List (List Int)) (k : Int) : Bool := true
abbrev RowT := List Int × Int
def suppB (l : List Int) : Int := (suppL 0 l).foldl (fun s i => s + 2 ^ i.toNat) 0
def rowX (r : RowT) : List Int := r.1.drop r.2.toNat
def semiflow_row_support.pre (r : RowT) : Bool := decide (0 ≤ r.2) && decide (r.2 ≤ (r.1.length : Int)) && decide ((r.1.length : Int) ≤ r.2 + 64) && bigL r.1
def semiflow_row_support.spec (r : RowT) : Int := suppB (rowX r)
def unitL (n i : Nat) : List Int := (List.range n).map fun k => cond (Nat.beq k i) 1 0
def startS (a : List (List Int)) : List RowT := (List.range (a.headD []).length).map fun c => (a.map (fun r => r.getD c 0) ++ unitL (a.headD []).length c, (a.length : Int))
def semiflow_start.pre (a : List (List Int)) : Bool := validM a
def semiflow_start.spec (a : List (List Int)) : List RowT := startS a
def joinS (p q : RowT) (j : Int) : RowT × Int := cond (decide (q.1.getD j.toNat 0 = 0) || decide (q.1.getD j.toNat 0 = -9223372036854775808)) (([], 0), 3)
 (cond ((combS p.1 (-(q.1.getD j.toNat 0)) q.1 (p.1.getD j.toNat 0)).2 == 0)
  (((primS (combS p.1 (-(q.1.getD j.toNat 0)) q.1 (p.1.getD j.toNat 0)).1).1, p.2), (primS (combS p.1 (-(q.1.getD j.toNat 0)) q.1 (p.1.getD j.toNat 0)).1).2)
  (([], 0), (combS p.1 (-(q.1.getD j.toNat 0)) q.1 (p.1.getD j.toNat 0)).2))
def semiflow_join.pre (p q : RowT) (j : Int) : Bool := decide (0 ≤ j) && decide (j < (p.1.length : Int)) && decide (j < (q.1.length : Int)) && bigL p.1
def semiflow_join.spec (p q : RowT) (j : Int) : RowT × Int := joinS p q j
def subU (s t : Int) : Bool := IntKind.u64.wrap (((BitVec.ofInt IntKind.u64.bits s &&& ~~~BitVec.ofInt IntKind.u64.bits t).toNat : Nat) : Int) == 0
def dropG (t i : Int) : Int → List Int → Bool
 | _, [] => false
 | k, s :: l => (subU s t && s != t) || ((decide (k < i) && s == t) || dropG t i (k + 1) l)
def minG (sets : List Int) : Int → List RowT → List RowT
 | _, [] => []
 | i, r :: l => cond (dropG (suppB (rowX r)) i 0 sets) (minG sets (i + 1) l) (r :: minG sets (i + 1) l)
def minimalS (l : List RowT) : List RowT := minG (l.map fun r => suppB (rowX r)) 0 l
def semiflow_minimal.pre (l : List RowT) : Bool := bigL l && l.all semiflow_row_support.pre
def semiflow_minimal.spec (l : List RowT) : List RowT := minimalS l
def pairS (j : Int) (p : RowT) : List RowT → List RowT → List RowT × Int
 | acc, [] => (acc, 0)
 | acc, q :: l => cond (decide (q.1.getD j.toNat 0 < 0))
  (cond ((joinS p q j).2 == 0) (cond (decide (2000 < acc.length + 1)) (acc ++ [(joinS p q j).1], 14) (pairS j p (acc ++ [(joinS p q j).1]) l)) (acc ++ [(joinS p q j).1], (joinS p q j).2))
  (pairS j p acc l)
def pairsS (j : Int) (all : List RowT) : List RowT → List RowT → List RowT × Int
 | acc, [] => (acc, 0)
 | acc, p :: l => cond (decide (0 < p.1.getD j.toNat 0)) (cond ((pairS j p acc all).2 == 0) (pairsS j all (pairS j p acc all).1 l) (pairS j p acc all)) (pairsS j all acc l)
def zeroS (j : Int) (l : List RowT) : List RowT := l.filter fun r => r.1.getD j.toNat 0 == 0
def stepS (l : List RowT) (j : Int) : List RowT × Int := cond ((pairsS j l (zeroS j l) l).2 == 0) (minimalS (pairsS j l (zeroS j l) l).1, 0) ([], (pairsS j l (zeroS j l) l).2)
def semiflow_step.pre (l : List RowT) (j : Int) : Bool := decide (l.length ≤ 1000000) && decide (0 ≤ j) && l.all fun r => decide (r.1.length = (l.headD ([], 0)).1.length) && decide (r.2 = (l.headD ([], 0)).2) && decide (j < (r.1.length : Int)) && semiflow_row_support.pre r
def semiflow_step.spec (l : List RowT) (j : Int) : List RowT × Int := stepS l j
def insD (x : List Int) : List (List Int) → List (List Int)
 | [] => [x]
 | y :: l => cond (decide (0 < cmpL y x)) (y :: insD x l) (x :: y :: l)
def sortedG : List (List Int) → List RowT → List (List Int)
 | acc, [] => acc
 | acc, r :: l => sortedG (insD (rowX r) acc) l
def semiflow_sorted.pre (l : List RowT) : Bool := decide (l.length ≤ 1000000) && l.all fun r => decide (0 ≤ r.2) && decide (r.2 ≤ (r.1.length : Int)) && bigL r.1
def semiflow_sorted.spec (l : List RowT) : List (List Int) := sortedG [] l
def solveG : List RowT → Int → Nat → List RowT × Int
 | l, _, 0 => (l, 0)
 | l, j, n + 1 => cond ((stepS l j).2 == 0) (solveG (stepS l j).1 (j + 1) n) ([], (stepS l j).2)
def solveS (a : List (List Int)) : List (List Int) × Int := cond (validM a) (cond ((solveG (startS a) 0 a.length).2 == 0) (sortedG [] (solveG (startS a) 0 a.length).1, 0) ([], (solveG (startS a) 0 a.length).2)) ([], 2)
def semiflow_Solve.spec (a : List (List Int)) : List (List Int) × Int := solveS a
def smallA (a : List (List Int)) : Bool := decide (a.length ≤ 6) && decide ((a.headD []).length ≤ 6) && a.all fun r => r.all fun x => decide (-3 ≤ x) && decide (x ≤ 3)
def pf31_Small.pre (a : List (List Int)) : Bool := validM a
def pf31_Small.spec (a : List (List Int)) : Bool := smallA a
def modA (a : List (List Int)) : Bool := a.all fun r => r.all fun x => decide (-50 ≤ x) && decide (x ≤ 50)
def pl31_moderate.spec (a : List (List Int)) : Bool := modA a
def dotL : List Int → List Int → Int
 | x :: a, y :: b => x * y + dotL a b
 | _, _ => 0
def zeroA (a : List (List Int)) (x : List Int) : Bool := a.all fun r => Nat.beq r.length x.length && (x.all fun y => decide (0 ≤ y) && decide (y ≤ 1125899906842624)) && (dotL r x == 0)
def pl31_zero.pre (a : List (List Int)) (x : List Int) : Bool := modA a && decide (x.length ≤ 64)
def pl31_zero.spec (a : List (List Int)) (x : List Int) : Bool := zeroA a x
def insL : List Int → List Int → Bool
 | x :: a, y :: b => (x == 0 || !(y == 0)) && insL a b
 | [], [] => true
 | _, _ => false
def pl31_inside.spec (a b : List Int) : Bool := insL a b
def largeB (x : List Int) : Bool := x.any fun y => decide (1125899906842624 < y)
def pl31_large.spec (x : List Int) : Bool := largeB x
def pl31_gcd.pre (x : List Int) : Bool := x.all fun y => decide (0 ≤ y)
def pl31_gcd.spec (x : List Int) : Int := (gcdL x : Int)
def pl31_SemiflowMinimal.spec (a : List (List Int)) : Bool := true
def pl31_SemiflowCovers.spec (a : List (List Int)) (x : List Int) : Bool := true
def safeint_Add.ks : List K := [.int .i64, .int .i64]
def safeint_Add.fent : Fent := ⟨safeint_Add.ks, fun α ds k => match ds with
 | [d0, d1] => match d0.get (.int .i64), d1.get (.int .i64) with
  | some a0, some a1 => lt (safeint_Add.spec a0 a1) fun r => k [.dat (.int .i64) r.1, .dat (.bool) r.2]
  | _, _ => none
 | _ => none⟩
def vector_Add.ks : List K := [.sl (.int .i64), .sl (.int .i64)]
def vector_Add.fent : Fent := ⟨vector_Add.ks, fun α ds k => match ds with
 | [d0, d1] => match d0.get (.sl (.int .i64)), d1.get (.sl (.int .i64)) with
  | some a0, some a1 => cond (vector_Add.pre a0 a1) (lt (vector_Add.spec a0 a1) fun r => k [.own (.int .i64) r.1, .dat (.int .i64) r.2]) none
  | _, _ => none
 | _ => none⟩
def pf01_Abs.ks : List K := [.int .i64]
def pf01_Abs.fent : Fent := ⟨pf01_Abs.ks, fun α ds k => match ds with
 | [d0] => match d0.get (.int .i64) with
  | some a0 => lt (pf01_Abs.spec a0) fun r => k [.dat (.int .u64) r]
  | _ => none
 | _ => none⟩
def pf01_Plus.ks : List K := [.int .i64, .int .i64]
def pf01_Plus.fent : Fent := ⟨pf01_Plus.ks, fun α ds k => match ds with
 | [d0, d1] => match d0.get (.int .i64), d1.get (.int .i64) with
  | some a0, some a1 => lt (pf01_Plus.spec a0 a1) fun r => k [.dat (.st (.pr (.bool) (.pr (.int .u64) (.int .u64)))) r]
  | _, _ => none
 | _ => none⟩
def pf01_Narrow.ks : List K := [.st (.pr (.bool) (.pr (.int .u64) (.int .u64)))]
def pf01_Narrow.fent : Fent := ⟨pf01_Narrow.ks, fun α ds k => match ds with
 | [d0] => match d0.get (.st (.pr (.bool) (.pr (.int .u64) (.int .u64)))) with
  | some a0 => lt (pf01_Narrow.spec a0) fun r => k [.dat (.int .i64) r.1, .dat (.bool) r.2]
  | _ => none
 | _ => none⟩
def pf01_Add.ks : List K := [.int .i64, .int .i64]
def pf01_Add.fent : Fent := ⟨pf01_Add.ks, fun α ds k => match ds with
 | [d0, d1] => match d0.get (.int .i64), d1.get (.int .i64) with
  | some a0, some a1 => lt (pf01_Add.spec a0 a1) fun r => k [.dat (.int .i64) r.1, .dat (.bool) r.2]
  | _, _ => none
 | _ => none⟩
def pf08_Vectors.ks : List K := [.sl (.int .i64), .sl (.int .i64)]
def pf08_Vectors.fent : Fent := ⟨pf08_Vectors.ks, fun α ds k => match ds with
 | [d0, d1] => match d0.get (.sl (.int .i64)), d1.get (.sl (.int .i64)) with
  | some a0, some a1 => lt (pf08_Vectors.spec a0 a1) fun r => k [.dat (.bool) r]
  | _, _ => none
 | _ => none⟩
def safeint_size.ks : List K := [.int .i64]
def safeint_size.fent : Fent := ⟨safeint_size.ks, fun α ds k => match ds with
 | [d0] => match d0.get (.int .i64) with
  | some a0 => lt (safeint_size.spec a0) fun r => k [.dat (.int .u64) r]
  | _ => none
 | _ => none⟩
def safeint_signed.ks : List K := [.int .u64, .bool]
def safeint_signed.fent : Fent := ⟨safeint_signed.ks, fun α ds k => match ds with
 | [d0, d1] => match d0.get (.int .u64), d1.get (.bool) with
  | some a0, some a1 => lt (safeint_signed.spec a0 a1) fun r => k [.dat (.int .i64) r.1, .dat (.bool) r.2]
  | _, _ => none
 | _ => none⟩
def safeint_common.ks : List K := [.int .u64, .int .u64]
def safeint_common.fent : Fent := ⟨safeint_common.ks, fun α ds k => match ds with
 | [d0, d1] => match d0.get (.int .u64), d1.get (.int .u64) with
  | some a0, some a1 => lt (safeint_common.spec a0 a1) fun r => k [.dat (.int .u64) r]
  | _, _ => none
 | _ => none⟩
def safeint_Mul.ks : List K := [.int .i64, .int .i64]
def safeint_Mul.fent : Fent := ⟨safeint_Mul.ks, fun α ds k => match ds with
 | [d0, d1] => match d0.get (.int .i64), d1.get (.int .i64) with
  | some a0, some a1 => lt (safeint_Mul.spec a0 a1) fun r => k [.dat (.int .i64) r.1, .dat (.bool) r.2]
  | _, _ => none
 | _ => none⟩
def safeint_Gcd.ks : List K := [.int .i64, .int .i64]
def safeint_Gcd.fent : Fent := ⟨safeint_Gcd.ks, fun α ds k => match ds with
 | [d0, d1] => match d0.get (.int .i64), d1.get (.int .i64) with
  | some a0, some a1 => lt (safeint_Gcd.spec a0 a1) fun r => k [.dat (.int .i64) r.1, .dat (.bool) r.2]
  | _, _ => none
 | _ => none⟩
def vector_Combine.ks : List K := [.sl (.int .i64), .int .i64, .sl (.int .i64), .int .i64]
def vector_Combine.fent : Fent := ⟨vector_Combine.ks, fun α ds k => match ds with
 | [d0, d1, d2, d3] => match d0.get (.sl (.int .i64)), d1.get (.int .i64), d2.get (.sl (.int .i64)), d3.get (.int .i64) with
  | some a0, some a1, some a2, some a3 => cond (vector_Combine.pre a0 a1 a2 a3) (lt (vector_Combine.spec a0 a1 a2 a3) fun r => k [.own (.int .i64) r.1, .dat (.int .i64) r.2]) none
  | _, _, _, _ => none
 | _ => none⟩
def vector_Prim.ks : List K := [.sl (.int .i64)]
def vector_Prim.fent : Fent := ⟨vector_Prim.ks, fun α ds k => match ds with
 | [d0] => match d0.get (.sl (.int .i64)) with
  | some a0 => cond (vector_Prim.pre a0) (lt (vector_Prim.spec a0) fun r => k [.own (.int .i64) r.1, .dat (.int .i64) r.2]) none
  | _ => none
 | _ => none⟩
def vector_Support.ks : List K := [.sl (.int .i64)]
def vector_Support.fent : Fent := ⟨vector_Support.ks, fun α ds k => match ds with
 | [d0] => match d0.get (.sl (.int .i64)) with
  | some a0 => cond (vector_Support.pre a0) (lt (vector_Support.spec a0) fun r => k [.own (.int .i64) r]) none
  | _ => none
 | _ => none⟩
def vector_Compare.ks : List K := [.sl (.int .i64), .sl (.int .i64)]
def vector_Compare.fent : Fent := ⟨vector_Compare.ks, fun α ds k => match ds with
 | [d0, d1] => match d0.get (.sl (.int .i64)), d1.get (.sl (.int .i64)) with
  | some a0, some a1 => lt (vector_Compare.spec a0 a1) fun r => k [.dat (.int .i64) r]
  | _, _ => none
 | _ => none⟩
def pf03_Compare.ks : List K := [.sl (.int .i64), .sl (.int .i64)]
def pf03_Compare.fent : Fent := ⟨pf03_Compare.ks, fun α ds k => match ds with
 | [d0, d1] => match d0.get (.sl (.int .i64)), d1.get (.sl (.int .i64)) with
  | some a0, some a1 => lt (pf03_Compare.spec a0 a1) fun r => k [.dat (.int .i64) r]
  | _, _ => none
 | _ => none⟩
def matrix_Valid.ks : List K := [.sl (.sl (.int .i64))]
def matrix_Valid.fent : Fent := ⟨matrix_Valid.ks, fun α ds k => match ds with
 | [d0] => match d0.get (.sl (.sl (.int .i64))) with
  | some a0 => lt (matrix_Valid.spec a0) fun r => k [.dat (.bool) r]
  | _ => none
 | _ => none⟩
def pf08_Valid.ks : List K := [.sl (.sl (.int .i64))]
def pf08_Valid.fent : Fent := ⟨pf08_Valid.ks, fun α ds k => match ds with
 | [d0] => match d0.get (.sl (.sl (.int .i64))) with
  | some a0 => lt (pf08_Valid.spec a0) fun r => k [.dat (.bool) r]
  | _ => none
 | _ => none⟩
def safeint_times.ks : List K := [.int .u64, .int .u64]
def safeint_times.fent : Fent := ⟨safeint_times.ks, fun α ds k => match ds with
 | [d0, d1] => match d0.get (.int .u64), d1.get (.int .u64) with
  | some a0, some a1 => lt (safeint_times.spec a0 a1) fun r => k [.dat (.st (.pr (.int .u64) (.int .u64))) r]
  | _, _ => none
 | _ => none⟩
def net_Incidence.ks : List K := [.st (.pr (.str) (.pr (.sl (.st (.pr (.str) (.pr (.int .i64) (.int .i64))))) (.sl (.st (.pr (.str) (.pr (.sl (.st (.pr (.int .i64) (.int .i64)))) (.pr (.sl (.st (.pr (.int .i64) (.int .i64)))) (.pr (.sl (.st (.pr (.int .i64) (.int .i64)))) (.int .i64)))))))))]
def net_Incidence.fent : Fent := ⟨net_Incidence.ks, fun α ds k => match ds with
 | [d0] => match d0.get (.st (.pr (.str) (.pr (.sl (.st (.pr (.str) (.pr (.int .i64) (.int .i64))))) (.sl (.st (.pr (.str) (.pr (.sl (.st (.pr (.int .i64) (.int .i64)))) (.pr (.sl (.st (.pr (.int .i64) (.int .i64)))) (.pr (.sl (.st (.pr (.int .i64) (.int .i64)))) (.int .i64)))))))))) with
  | some a0 => lt (net_Incidence.spec a0) fun r => k [.dat (.sl (.sl (.int .i64))) r]
  | _ => none
 | _ => none⟩
def matrix_Transpose.ks : List K := [.sl (.sl (.int .i64))]
def matrix_Transpose.fent : Fent := ⟨matrix_Transpose.ks, fun α ds k => match ds with
 | [d0] => match d0.get (.sl (.sl (.int .i64))) with
  | some a0 => lt (matrix_Transpose.spec a0) fun r => k [.dat (.sl (.sl (.int .i64))) r]
  | _ => none
 | _ => none⟩
def net_Name.ks : List K := [.str]
def net_Name.fent : Fent := ⟨net_Name.ks, fun α ds k => match ds with
 | [d0] => match d0.get (.str) with
  | some a0 => lt (net_Name.spec a0) fun r => k [.dat (.bool) r]
  | _ => none
 | _ => none⟩
def pf09_Name.ks : List K := [.str]
def pf09_Name.fent : Fent := ⟨pf09_Name.ks, fun α ds k => match ds with
 | [d0] => match d0.get (.str) with
  | some a0 => lt (pf09_Name.spec a0) fun r => k [.dat (.bool) r]
  | _ => none
 | _ => none⟩
def net_checkArcs.ks : List K := [.sl (.st (.pr (.int .i64) (.int .i64))), .int .i64]
def net_checkArcs.fent : Fent := ⟨net_checkArcs.ks, fun α ds k => match ds with
 | [d0, d1] => match d0.get (.sl (.st (.pr (.int .i64) (.int .i64)))), d1.get (.int .i64) with
  | some a0, some a1 => lt (net_checkArcs.spec a0 a1) fun r => k [.dat (.int .i64) r]
  | _, _ => none
 | _ => none⟩
def net_checkPlace.ks : List K := [.st (.pr (.str) (.pr (.int .i64) (.int .i64)))]
def net_checkPlace.fent : Fent := ⟨net_checkPlace.ks, fun α ds k => match ds with
 | [d0] => match d0.get (.st (.pr (.str) (.pr (.int .i64) (.int .i64)))) with
  | some a0 => lt (net_checkPlace.spec a0) fun r => k [.dat (.int .i64) r]
  | _ => none
 | _ => none⟩
def net_checkTrans.ks : List K := [.st (.pr (.str) (.pr (.sl (.st (.pr (.int .i64) (.int .i64)))) (.pr (.sl (.st (.pr (.int .i64) (.int .i64)))) (.pr (.sl (.st (.pr (.int .i64) (.int .i64)))) (.int .i64))))), .int .i64]
def net_checkTrans.fent : Fent := ⟨net_checkTrans.ks, fun α ds k => match ds with
 | [d0, d1] => match d0.get (.st (.pr (.str) (.pr (.sl (.st (.pr (.int .i64) (.int .i64)))) (.pr (.sl (.st (.pr (.int .i64) (.int .i64)))) (.pr (.sl (.st (.pr (.int .i64) (.int .i64)))) (.int .i64)))))), d1.get (.int .i64) with
  | some a0, some a1 => lt (net_checkTrans.spec a0 a1) fun r => k [.dat (.int .i64) r]
  | _, _ => none
 | _ => none⟩
def marking_Valid.ks : List K := [.sl (.int .i64), .int .i64]
def marking_Valid.fent : Fent := ⟨marking_Valid.ks, fun α ds k => match ds with
 | [d0, d1] => match d0.get (.sl (.int .i64)), d1.get (.int .i64) with
  | some a0, some a1 => lt (marking_Valid.spec a0 a1) fun r => k [.dat (.bool) r]
  | _, _ => none
 | _ => none⟩
def net_Check.ks : List K := [.st (.pr (.str) (.pr (.sl (.st (.pr (.str) (.pr (.int .i64) (.int .i64))))) (.sl (.st (.pr (.str) (.pr (.sl (.st (.pr (.int .i64) (.int .i64)))) (.pr (.sl (.st (.pr (.int .i64) (.int .i64)))) (.pr (.sl (.st (.pr (.int .i64) (.int .i64)))) (.int .i64)))))))))]
def net_Check.fent : Fent := ⟨net_Check.ks, fun α ds k => match ds with
 | [d0] => match d0.get (.st (.pr (.str) (.pr (.sl (.st (.pr (.str) (.pr (.int .i64) (.int .i64))))) (.sl (.st (.pr (.str) (.pr (.sl (.st (.pr (.int .i64) (.int .i64)))) (.pr (.sl (.st (.pr (.int .i64) (.int .i64)))) (.pr (.sl (.st (.pr (.int .i64) (.int .i64)))) (.int .i64)))))))))) with
  | some a0 => lt (net_Check.spec a0) fun r => k [.dat (.st (.pr (.int .i64) (.int .i64))) r]
  | _ => none
 | _ => none⟩
def net_weight.ks : List K := [.sl (.st (.pr (.int .i64) (.int .i64))), .int .i64]
def net_weight.fent : Fent := ⟨net_weight.ks, fun α ds k => match ds with
 | [d0, d1] => match d0.get (.sl (.st (.pr (.int .i64) (.int .i64)))), d1.get (.int .i64) with
  | some a0, some a1 => lt (net_weight.spec a0 a1) fun r => k [.dat (.int .i64) r]
  | _, _ => none
 | _ => none⟩
def pf09_Weight.ks : List K := [.sl (.st (.pr (.int .i64) (.int .i64))), .int .i64]
def pf09_Weight.fent : Fent := ⟨pf09_Weight.ks, fun α ds k => match ds with
 | [d0, d1] => match d0.get (.sl (.st (.pr (.int .i64) (.int .i64)))), d1.get (.int .i64) with
  | some a0, some a1 => lt (pf09_Weight.spec a0 a1) fun r => k [.dat (.int .i64) r]
  | _, _ => none
 | _ => none⟩
def pf09_arcs.ks : List K := [.st (.pr (.str) (.pr (.sl (.st (.pr (.str) (.pr (.int .i64) (.int .i64))))) (.sl (.st (.pr (.str) (.pr (.sl (.st (.pr (.int .i64) (.int .i64)))) (.pr (.sl (.st (.pr (.int .i64) (.int .i64)))) (.pr (.sl (.st (.pr (.int .i64) (.int .i64)))) (.int .i64))))))))), .sl (.st (.pr (.int .i64) (.int .i64)))]
def pf09_arcs.fent : Fent := ⟨pf09_arcs.ks, fun α ds k => match ds with
 | [d0, d1] => match d0.get (.st (.pr (.str) (.pr (.sl (.st (.pr (.str) (.pr (.int .i64) (.int .i64))))) (.sl (.st (.pr (.str) (.pr (.sl (.st (.pr (.int .i64) (.int .i64)))) (.pr (.sl (.st (.pr (.int .i64) (.int .i64)))) (.pr (.sl (.st (.pr (.int .i64) (.int .i64)))) (.int .i64)))))))))), d1.get (.sl (.st (.pr (.int .i64) (.int .i64)))) with
  | some a0, some a1 => lt (pf09_arcs.spec a0 a1) fun r => k [.dat (.int .i64) r]
  | _, _ => none
 | _ => none⟩
def pf09_place.ks : List K := [.st (.pr (.str) (.pr (.sl (.st (.pr (.str) (.pr (.int .i64) (.int .i64))))) (.sl (.st (.pr (.str) (.pr (.sl (.st (.pr (.int .i64) (.int .i64)))) (.pr (.sl (.st (.pr (.int .i64) (.int .i64)))) (.pr (.sl (.st (.pr (.int .i64) (.int .i64)))) (.int .i64))))))))), .int .i64]
def pf09_place.fent : Fent := ⟨pf09_place.ks, fun α ds k => match ds with
 | [d0, d1] => match d0.get (.st (.pr (.str) (.pr (.sl (.st (.pr (.str) (.pr (.int .i64) (.int .i64))))) (.sl (.st (.pr (.str) (.pr (.sl (.st (.pr (.int .i64) (.int .i64)))) (.pr (.sl (.st (.pr (.int .i64) (.int .i64)))) (.pr (.sl (.st (.pr (.int .i64) (.int .i64)))) (.int .i64)))))))))), d1.get (.int .i64) with
  | some a0, some a1 => cond (pf09_place.pre a0 a1) (lt (pf09_place.spec a0 a1) fun r => k [.dat (.int .i64) r]) none
  | _, _ => none
 | _ => none⟩
def pf09_trans.ks : List K := [.st (.pr (.str) (.pr (.sl (.st (.pr (.str) (.pr (.int .i64) (.int .i64))))) (.sl (.st (.pr (.str) (.pr (.sl (.st (.pr (.int .i64) (.int .i64)))) (.pr (.sl (.st (.pr (.int .i64) (.int .i64)))) (.pr (.sl (.st (.pr (.int .i64) (.int .i64)))) (.int .i64))))))))), .int .i64]
def pf09_trans.fent : Fent := ⟨pf09_trans.ks, fun α ds k => match ds with
 | [d0, d1] => match d0.get (.st (.pr (.str) (.pr (.sl (.st (.pr (.str) (.pr (.int .i64) (.int .i64))))) (.sl (.st (.pr (.str) (.pr (.sl (.st (.pr (.int .i64) (.int .i64)))) (.pr (.sl (.st (.pr (.int .i64) (.int .i64)))) (.pr (.sl (.st (.pr (.int .i64) (.int .i64)))) (.int .i64)))))))))), d1.get (.int .i64) with
  | some a0, some a1 => cond (pf09_trans.pre a0 a1) (lt (pf09_trans.spec a0 a1) fun r => k [.dat (.int .i64) r]) none
  | _, _ => none
 | _ => none⟩
def pf09_Check.ks : List K := [.st (.pr (.str) (.pr (.sl (.st (.pr (.str) (.pr (.int .i64) (.int .i64))))) (.sl (.st (.pr (.str) (.pr (.sl (.st (.pr (.int .i64) (.int .i64)))) (.pr (.sl (.st (.pr (.int .i64) (.int .i64)))) (.pr (.sl (.st (.pr (.int .i64) (.int .i64)))) (.int .i64)))))))))]
def pf09_Check.fent : Fent := ⟨pf09_Check.ks, fun α ds k => match ds with
 | [d0] => match d0.get (.st (.pr (.str) (.pr (.sl (.st (.pr (.str) (.pr (.int .i64) (.int .i64))))) (.sl (.st (.pr (.str) (.pr (.sl (.st (.pr (.int .i64) (.int .i64)))) (.pr (.sl (.st (.pr (.int .i64) (.int .i64)))) (.pr (.sl (.st (.pr (.int .i64) (.int .i64)))) (.int .i64)))))))))) with
  | some a0 => lt (pf09_Check.spec a0) fun r => k [.dat (.st (.pr (.int .i64) (.int .i64))) r]
  | _ => none
 | _ => none⟩
def net_valid.ks : List K := [.st (.pr (.str) (.pr (.sl (.st (.pr (.str) (.pr (.int .i64) (.int .i64))))) (.sl (.st (.pr (.str) (.pr (.sl (.st (.pr (.int .i64) (.int .i64)))) (.pr (.sl (.st (.pr (.int .i64) (.int .i64)))) (.pr (.sl (.st (.pr (.int .i64) (.int .i64)))) (.int .i64)))))))))]
def net_valid.fent : Fent := ⟨net_valid.ks, fun α ds k => match ds with
 | [d0] => match d0.get (.st (.pr (.str) (.pr (.sl (.st (.pr (.str) (.pr (.int .i64) (.int .i64))))) (.sl (.st (.pr (.str) (.pr (.sl (.st (.pr (.int .i64) (.int .i64)))) (.pr (.sl (.st (.pr (.int .i64) (.int .i64)))) (.pr (.sl (.st (.pr (.int .i64) (.int .i64)))) (.int .i64)))))))))) with
  | some a0 => lt (net_valid.spec a0) fun r => k [.dat (.bool) r]
  | _ => none
 | _ => none⟩
def pf09_Valid.ks : List K := [.st (.pr (.str) (.pr (.sl (.st (.pr (.str) (.pr (.int .i64) (.int .i64))))) (.sl (.st (.pr (.str) (.pr (.sl (.st (.pr (.int .i64) (.int .i64)))) (.pr (.sl (.st (.pr (.int .i64) (.int .i64)))) (.pr (.sl (.st (.pr (.int .i64) (.int .i64)))) (.int .i64)))))))))]
def pf09_Valid.fent : Fent := ⟨pf09_Valid.ks, fun α ds k => match ds with
 | [d0] => match d0.get (.st (.pr (.str) (.pr (.sl (.st (.pr (.str) (.pr (.int .i64) (.int .i64))))) (.sl (.st (.pr (.str) (.pr (.sl (.st (.pr (.int .i64) (.int .i64)))) (.pr (.sl (.st (.pr (.int .i64) (.int .i64)))) (.pr (.sl (.st (.pr (.int .i64) (.int .i64)))) (.int .i64)))))))))) with
  | some a0 => lt (pf09_Valid.spec a0) fun r => k [.dat (.bool) r]
  | _ => none
 | _ => none⟩
def pf06_Has.ks : List K := [.int .u64, .int .i64]
def pf06_Has.fent : Fent := ⟨pf06_Has.ks, fun α ds k => match ds with
 | [d0, d1] => match d0.get (.int .u64), d1.get (.int .i64) with
  | some a0, some a1 => lt (pf06_Has.spec a0 a1) fun r => k [.dat (.bool) r]
  | _, _ => none
 | _ => none⟩
def pf09_Small.ks : List K := [.st (.pr (.str) (.pr (.sl (.st (.pr (.str) (.pr (.int .i64) (.int .i64))))) (.sl (.st (.pr (.str) (.pr (.sl (.st (.pr (.int .i64) (.int .i64)))) (.pr (.sl (.st (.pr (.int .i64) (.int .i64)))) (.pr (.sl (.st (.pr (.int .i64) (.int .i64)))) (.int .i64)))))))))]
def pf09_Small.fent : Fent := ⟨pf09_Small.ks, fun α ds k => match ds with
 | [d0] => match d0.get (.st (.pr (.str) (.pr (.sl (.st (.pr (.str) (.pr (.int .i64) (.int .i64))))) (.sl (.st (.pr (.str) (.pr (.sl (.st (.pr (.int .i64) (.int .i64)))) (.pr (.sl (.st (.pr (.int .i64) (.int .i64)))) (.pr (.sl (.st (.pr (.int .i64) (.int .i64)))) (.int .i64)))))))))) with
  | some a0 => lt (pf09_Small.spec a0) fun r => k [.dat (.st (.pr (.str) (.pr (.sl (.st (.pr (.str) (.pr (.int .i64) (.int .i64))))) (.sl (.st (.pr (.str) (.pr (.sl (.st (.pr (.int .i64) (.int .i64)))) (.pr (.sl (.st (.pr (.int .i64) (.int .i64)))) (.pr (.sl (.st (.pr (.int .i64) (.int .i64)))) (.int .i64)))))))))) r.1, .dat (.bool) r.2]
  | _ => none
 | _ => none⟩
def semiflow_Covered.ks : List K := [.sl (.sl (.int .i64)), .int .i64]
def semiflow_Covered.fent : Fent := ⟨semiflow_Covered.ks, fun α ds k => match ds with
 | [d0, d1] => match d0.get (.sl (.sl (.int .i64))), d1.get (.int .i64) with
  | some a0, some a1 => lt (semiflow_Covered.spec a0 a1) fun r => k [.dat (.bool) r]
  | _, _ => none
 | _ => none⟩
def pf31_Covered.ks : List K := [.sl (.sl (.int .i64)), .int .i64]
def pf31_Covered.fent : Fent := ⟨pf31_Covered.ks, fun α ds k => match ds with
 | [d0, d1] => match d0.get (.sl (.sl (.int .i64))), d1.get (.int .i64) with
  | some a0, some a1 => lt (pf31_Covered.spec a0 a1) fun r => k [.dat (.bool) r]
  | _, _ => none
 | _ => none⟩
def semiflow_Sum.ks : List K := [.sl (.sl (.int .i64))]
def semiflow_Sum.fent : Fent := ⟨semiflow_Sum.ks, fun α ds k => match ds with
 | [d0] => match d0.get (.sl (.sl (.int .i64))) with
  | some a0 => cond (semiflow_Sum.pre a0) (lt (semiflow_Sum.spec a0) fun r => k [.own (.int .i64) r.1, .dat (.int .i64) r.2]) none
  | _ => none
 | _ => none⟩
def pf31_Sum.ks : List K := [.sl (.sl (.int .i64))]
def pf31_Sum.fent : Fent := ⟨pf31_Sum.ks, fun α ds k => match ds with
 | [d0] => match d0.get (.sl (.sl (.int .i64))) with
  | some a0 => cond (pf31_Sum.pre a0) (lt (pf31_Sum.spec a0) fun r => k [.own (.int .i64) r.1, .dat (.int .i64) r.2]) none
  | _ => none
 | _ => none⟩
def pl31_short.ks : List K := [.sl (.sl (.int .i64))]
def pl31_short.fent : Fent := ⟨pl31_short.ks, fun α ds k => match ds with
 | [d0] => match d0.get (.sl (.sl (.int .i64))) with
  | some a0 => lt (pl31_short.spec a0) fun r => k [.dat (.bool) r]
  | _ => none
 | _ => none⟩
def pl31_lives.ks : List K := []
def pl31_lives.fent : Fent := ⟨pl31_lives.ks, fun α ds k => lt (pl31_lives.spec ) fun r => k [.dat (.bool) r]⟩
def pl31_SemiflowSums.ks : List K := [.sl (.sl (.int .i64)), .int .i64]
def pl31_SemiflowSums.fent : Fent := ⟨pl31_SemiflowSums.ks, fun α ds k => match ds with
 | [d0, d1] => match d0.get (.sl (.sl (.int .i64))), d1.get (.int .i64) with
  | some a0, some a1 => lt (pl31_SemiflowSums.spec a0 a1) fun r => k [.dat (.bool) r]
  | _, _ => none
 | _ => none⟩
def semiflow_row_support.ks : List K := [.st (.pr (.sl (.int .i64)) (.int .i64))]
def semiflow_row_support.fent : Fent := ⟨semiflow_row_support.ks, fun α ds k => match ds with
 | [d0] => match d0.get (.st (.pr (.sl (.int .i64)) (.int .i64))) with
  | some a0 => cond (semiflow_row_support.pre a0) (lt (semiflow_row_support.spec a0) fun r => k [.dat (.int .u64) r]) none
  | _ => none
 | _ => none⟩
def semiflow_start.ks : List K := [.sl (.sl (.int .i64))]
def semiflow_start.fent : Fent := ⟨semiflow_start.ks, fun α ds k => match ds with
 | [d0] => match d0.get (.sl (.sl (.int .i64))) with
  | some a0 => cond (semiflow_start.pre a0) (lt (semiflow_start.spec a0) fun r => k [.dat (.sl (.st (.pr (.sl (.int .i64)) (.int .i64)))) r]) none
  | _ => none
 | _ => none⟩
def semiflow_join.ks : List K := [.st (.pr (.sl (.int .i64)) (.int .i64)), .st (.pr (.sl (.int .i64)) (.int .i64)), .int .i64]
def semiflow_join.fent : Fent := ⟨semiflow_join.ks, fun α ds k => match ds with
 | [d0, d1, d2] => match d0.get (.st (.pr (.sl (.int .i64)) (.int .i64))), d1.get (.st (.pr (.sl (.int .i64)) (.int .i64))), d2.get (.int .i64) with
  | some a0, some a1, some a2 => cond (semiflow_join.pre a0 a1 a2) (lt (semiflow_join.spec a0 a1 a2) fun r => k [.dat (.st (.pr (.sl (.int .i64)) (.int .i64))) r.1, .dat (.int .i64) r.2]) none
  | _, _, _ => none
 | _ => none⟩
def semiflow_minimal.ks : List K := [.sl (.st (.pr (.sl (.int .i64)) (.int .i64)))]
def semiflow_minimal.fent : Fent := ⟨semiflow_minimal.ks, fun α ds k => match ds with
 | [d0] => match d0.get (.sl (.st (.pr (.sl (.int .i64)) (.int .i64)))) with
  | some a0 => cond (semiflow_minimal.pre a0) (lt (semiflow_minimal.spec a0) fun r => k [.own (.st (.pr (.sl (.int .i64)) (.int .i64))) r]) none
  | _ => none
 | _ => none⟩
def semiflow_step.ks : List K := [.sl (.st (.pr (.sl (.int .i64)) (.int .i64))), .int .i64]
def semiflow_step.fent : Fent := ⟨semiflow_step.ks, fun α ds k => match ds with
 | [d0, d1] => match d0.get (.sl (.st (.pr (.sl (.int .i64)) (.int .i64)))), d1.get (.int .i64) with
  | some a0, some a1 => cond (semiflow_step.pre a0 a1) (lt (semiflow_step.spec a0 a1) fun r => k [.dat (.sl (.st (.pr (.sl (.int .i64)) (.int .i64)))) r.1, .dat (.int .i64) r.2]) none
  | _, _ => none
 | _ => none⟩
def semiflow_sorted.ks : List K := [.sl (.st (.pr (.sl (.int .i64)) (.int .i64)))]
def semiflow_sorted.fent : Fent := ⟨semiflow_sorted.ks, fun α ds k => match ds with
 | [d0] => match d0.get (.sl (.st (.pr (.sl (.int .i64)) (.int .i64)))) with
  | some a0 => cond (semiflow_sorted.pre a0) (lt (semiflow_sorted.spec a0) fun r => k [.dat (.sl (.sl (.int .i64))) r]) none
  | _ => none
 | _ => none⟩
def semiflow_Solve.ks : List K := [.sl (.sl (.int .i64))]
def semiflow_Solve.fent : Fent := ⟨semiflow_Solve.ks, fun α ds k => match ds with
 | [d0] => match d0.get (.sl (.sl (.int .i64))) with
  | some a0 => lt (semiflow_Solve.spec a0) fun r => k [.dat (.sl (.sl (.int .i64))) r.1, .dat (.int .i64) r.2]
  | _ => none
 | _ => none⟩
def pf31_Small.ks : List K := [.sl (.sl (.int .i64))]
def pf31_Small.fent : Fent := ⟨pf31_Small.ks, fun α ds k => match ds with
 | [d0] => match d0.get (.sl (.sl (.int .i64))) with
  | some a0 => cond (pf31_Small.pre a0) (lt (pf31_Small.spec a0) fun r => k [.dat (.bool) r]) none
  | _ => none
 | _ => none⟩
def pl31_moderate.ks : List K := [.sl (.sl (.int .i64))]
def pl31_moderate.fent : Fent := ⟨pl31_moderate.ks, fun α ds k => match ds with
 | [d0] => match d0.get (.sl (.sl (.int .i64))) with
  | some a0 => lt (pl31_moderate.spec a0) fun r => k [.dat (.bool) r]
  | _ => none
 | _ => none⟩
def pl31_zero.ks : List K := [.sl (.sl (.int .i64)), .sl (.int .i64)]
def pl31_zero.fent : Fent := ⟨pl31_zero.ks, fun α ds k => match ds with
 | [d0, d1] => match d0.get (.sl (.sl (.int .i64))), d1.get (.sl (.int .i64)) with
  | some a0, some a1 => cond (pl31_zero.pre a0 a1) (lt (pl31_zero.spec a0 a1) fun r => k [.dat (.bool) r]) none
  | _, _ => none
 | _ => none⟩
def pl31_inside.ks : List K := [.sl (.int .i64), .sl (.int .i64)]
def pl31_inside.fent : Fent := ⟨pl31_inside.ks, fun α ds k => match ds with
 | [d0, d1] => match d0.get (.sl (.int .i64)), d1.get (.sl (.int .i64)) with
  | some a0, some a1 => lt (pl31_inside.spec a0 a1) fun r => k [.dat (.bool) r]
  | _, _ => none
 | _ => none⟩
def pl31_large.ks : List K := [.sl (.int .i64)]
def pl31_large.fent : Fent := ⟨pl31_large.ks, fun α ds k => match ds with
 | [d0] => match d0.get (.sl (.int .i64)) with
  | some a0 => lt (pl31_large.spec a0) fun r => k [.dat (.bool) r]
  | _ => none
 | _ => none⟩
def pl31_gcd.ks : List K := [.sl (.int .i64)]
def pl31_gcd.fent : Fent := ⟨pl31_gcd.ks, fun α ds k => match ds with
 | [d0] => match d0.get (.sl (.int .i64)) with
  | some a0 => cond (pl31_gcd.pre a0) (lt (pl31_gcd.spec a0) fun r => k [.dat (.int .i64) r]) none
  | _ => none
 | _ => none⟩
def pl31_SemiflowMinimal.ks : List K := [.sl (.sl (.int .i64))]
def pl31_SemiflowMinimal.fent : Fent := ⟨pl31_SemiflowMinimal.ks, fun α ds k => match ds with
 | [d0] => match d0.get (.sl (.sl (.int .i64))) with
  | some a0 => lt (pl31_SemiflowMinimal.spec a0) fun r => k [.dat (.bool) r]
  | _ => none
 | _ => none⟩
def pl31_SemiflowCovers.ks : List K := [.sl (.sl (.int .i64)), .sl (.int .i64)]
def pl31_SemiflowCovers.fent : Fent := ⟨pl31_SemiflowCovers.ks, fun α ds k => match ds with
 | [d0, d1] => match d0.get (.sl (.sl (.int .i64))), d1.get (.sl (.int .i64)) with
  | some a0, some a1 => lt (pl31_SemiflowCovers.spec a0 a1) fun r => k [.dat (.bool) r]
  | _, _ => none
 | _ => none⟩
end Go.VI
namespace Go.VI
open Go Go.Proofs
namespace pl31_short
def an9 : Ann := [(4, [0, 3], [2])]
def L0.sh : Sh := { sl := [(0, SV.a (SA.d (K.int IntKind.i64).sl.sl)), (3, SV.a (SA.d (K.int IntKind.i64)))], os := [], nx := 0 }
def L0.x0 : Sh := { sl := [(2, SV.a (SA.d K.bool))], os := [], nx := 0 }
def L0.x1 : Sh := { sl := [(2, SV.j)], os := [], nx := 0 }
def L0.st {α : Type} (N : Nat) (x0 : (List (List Int))) (φ : (Int → Option α)) (x1 : Int) (k0 : (Bool → Option α)) (k1 : Option α) : Option α :=
 cond (decide (x1 < (↑x0.length : Int))) (cond (decide (0 ≤ x1) && decide (x1 < (↑x0.length : Int))) (cond (decide (20 < (↑(List.length (x0.getD x1.toNat [])) : Int))) (k0 (false)) (φ (IntKind.i64.wrap (x1 + 1)))) (none)) (k1 )
def L0.f {α : Type} (N : Nat) (c0 : (List (List Int))) : Nat → Int → (Bool → Option α) → Option α → Option α
 | 0, _, _, _ => none
 | n + 1, d0, k0, k1 => L0.st N c0 (fun e0 => L0.f N c0 n e0 k0 k1) d0 k0 k1
def L0.up (d : L0.sh.T) (e0 : Int) : L0.sh.T := ((d.1.1, (e0, ())), ())
def L0.k0 {α : Type} (d : L0.sh.T) (K : Cont α) : (Bool → Option α) := fun y0 => K (Exit.ret) (L0.x0.enc ((y0, ()), ()))
def L0.k1 {α : Type} (d : L0.sh.T) (K : Cont α) : Option α := K (Exit.exit 0) (L0.x1.enc (((), ()), ()))
def L0.F {α : Type} (N : Nat) (d : L0.sh.T) (K : Cont α) : Option α := L0.f N d.1.1 N d.1.2.1 (L0.k0 d K) (L0.k1 d K)
def ents9 {α : Type} (N : Nat) : List (SmE α) := [⟨0, 50, 4, [⟨L0.sh, L0.F N⟩]⟩]
def C (N : Nat) : Ctx := ⟨tys, [], [], N⟩
def L0.B {α : Type} (N : Nat) : Env → Cont α → Option α := evC tys 19 0 (evCall (C N) 50) (evCallQ (C N)) N an9 (smL (ents9 N) 0 50) (loopOf 4 Try.f9)
theorem L0.r {α : Type} (N : Nat) (φ : Env → Option α) (K : Cont α) (d : L0.sh.T) : L0.B N (L0.sh.enc d) (contL φ K (Env.norm 0 [0, 3]) (Env.norm 0 [2])) = L0.st N d.1.1 (fun e0 => φ (L0.sh.enc (L0.up d e0))) d.1.2.1 (L0.k0 d K) (L0.k1 d K) := by kernel_rfl
theorem L0.e {α : Type} (N : Nat) : ∀ (n : Nat) (d : L0.sh.T) (K : Cont α), evL (L0.B N) (Env.norm 0 [0, 3]) (Env.norm 0 [2]) n (L0.sh.enc d) K = L0.f N d.1.1 n d.1.2.1 (L0.k0 d K) (L0.k1 d K)
 | 0, d, K => rfl
 | n + 1, d, K => evL_contL.trans ((L0.r N _ K d).trans (congrArg (fun φ => L0.st N d.1.1 φ d.1.2.1 (L0.k0 d K) (L0.k1 d K)) (funext fun e0 => L0.e N n (L0.up d e0) K)))
theorem ents9_ok {α : Type} (N : Nat) : AllP (EntOk (C N) Try.f9 an9 (ents9 (α := α) N)) (ents9 N) := ⟨entOk_of (b0 := loopOf 4 Try.f9) (li0 := [0, 3]) (lx0 := [2]) (by kernel_rfl) (by kernel_rfl) ⟨fun d K => L0.e N N d K, trivial⟩, trivial⟩
def g {α : Type} (N : Nat) (a0 : List (List Int)) (kr : (Bool → Option α)) : Option α :=
 cond (decide (20 < (↑a0.length : Int))) (kr (false)) (L0.f N (a0) N (0) (fun x2 => kr (x2)) (kr (true)))
theorem eq (N : Nat) (a0 : List (List Int)) : evF (C N) 50 Try.f9 an9 (smL (ents9 N) 0 50) [((.bool : K), false)] [⟨.sl (.sl (.int .i64)), a0⟩] = g N a0 (fun r0 => some [.dat (K.bool) r0]) := by kernel_rfl
theorem ctxOk (N : Nat) : CtxOk P (C N) := ctxOk_of tysOk mixedOk trivial trivial
theorem calls (N : Nat) (a0 : List (List Int)) {rs : List Rs} (h : g N a0 (fun r0 => some [.dat (K.bool) r0]) = some rs) : CallsTo P 9 [⟨.sl (.sl (.int .i64)), a0⟩] rs := evF_calls' (ctxOk N) (by rfl) (ents9_ok N) ((eq N a0).trans h)
def L0.l {α : Type} (N : Nat) (x0 : (List (List Int))) (k0 : (Bool → Option α)) (k1 : Option α) : List (List Int) → Int → Option α
 | [], x1 => k1 
 | x :: l, x1 => (cond (decide (20 < (↑(List.length x) : Int))) (k0 (false)) (L0.l N x0 k0 k1 l (x1 + 1)))
theorem L0.rng {α : Type} {N : Nat} (x0 : (List (List Int))) (hl : x0.length ≤ maxLen) (k0 : (Bool → Option α)) (k1 : Option α) : ∀ (n j : Nat), x0.length < n + j → j ≤ x0.length → L0.f N x0 n (j : Int) k0 k1 = L0.l N x0 k0 k1 (x0.drop j) (j : Int) :=
 rng0 x0 hl (fun n i => L0.f N x0 n i k0 k1) (fun l i => L0.l N x0 k0 k1 l i) (fun n j hj h ih => by simp only [L0.f, L0.st, L0.l, h.a, h.b, h.c, h.d, h.e, Bool.true_and, Bool.and_true, Bool.and_self, cond_true, ih] <;> rfl) (fun n j h => by simp only [L0.f, L0.st, L0.l, h, cond_false])
end pl31_short
theorem pl31_short.L0.law {α : Type} {N : Nat} (a : List (List Int)) (k0 : Bool → Option α) (k1 : Option α) : ∀ (l : List (List Int)) (i : Int),
  pl31_short.L0.l N a k0 k1 l i = cond (l.all fun r => decide (r.length ≤ 20)) k1 (k0 false)
 | [], i => rfl
 | x :: l, i => by
  rw [pl31_short.L0.l, pl31_short.L0.law a k0 k1 l]
  by_cases h : x.length ≤ 20
  ·
   have e1 : decide (20 < (x.length : Int)) = false := decide_eq_false (by omega)
   simp only [e1, cond_false, List.all_cons, h, decide_true, Bool.true_and]
  ·
   have e1 : decide (20 < (x.length : Int)) = true := decide_eq_true (by omega)
   simp only [e1, cond_true, List.all_cons, h, decide_false, Bool.false_and, cond_false]
theorem pl31_short.law {α : Type} {N : Nat} (hN : 18446744073709551616 ≤ N) (a0 : List (List Int)) (w0 : K.wf (.sl (.sl (.int .i64))) a0) (kr : (Bool → Option α)) : pl31_short.g N a0 kr = kr (pl31_short.spec a0) := by
 unfold pl31_short.g pl31_short.spec
 by_cases h : a0.length ≤ 20
 ·
  have e1 : decide (20 < (a0.length : Int)) = false := decide_eq_false (by omega)
  simp only [e1, cond_false, h, decide_true, Bool.true_and]
  refine (pl31_short.L0.rng (N := N) a0 w0.1 (fun x => kr x) (kr true) N 0 (by have := le_fuel w0.1 hN; omega) (Nat.zero_le _)).trans ?_
  rw [pl31_short.L0.law, List.drop_zero]
  cases a0.all fun r => decide (r.length ≤ 20) <;> rfl
 ·
  have e1 : decide (20 < (a0.length : Int)) = true := decide_eq_true (by omega)
  simp only [e1, cond_true, h, decide_false, Bool.false_and]
theorem pl31_short.ok : FentOk P 9 pl31_short.fent := fentOk_of (by kernel_rfl) fun ds hk => by
 obtain ⟨a0, l0, rfl, h0⟩ := ds_cons hk
 obtain rfl := ds0 h0
 exact ⟨true, [.dat (.bool) (pl31_short.spec a0)], fun h hw => pl31_short.calls 18446744073709551616 a0 (pl31_short.law (Nat.le_refl _) a0 hw.1 _), fun α k => rfl⟩
end Go.VI
namespace Go.VI
open Go Go.Proofs
namespace memo_solve31
def an12 : Ann := [(5, [4, 14, 15], [2, 3, 4])]
def an36 : Ann := [(5, [3, 18, 19, 20], [2, 3])]
def an37 : Ann := [(4, [0, 3, 4, 5], [4]), (8, [0, 3, 4, 5, 6, 25, 26], [0, 3, 4, 5, 6])]
def an38 : Ann := []
def an39 : Ann := [(3, [3, 8, 9, 10], [3]), (8, [3, 6, 7, 8, 9, 10], [3, 6, 7, 8, 9, 10])]
def an65 : Ann := [(3, [0, 3, 15, 16, 17], [0, 3]), (9, [3, 6, 28, 29, 30], [6]), (12, [3, 6, 7, 8, 28, 29, 30, 35, 36, 37], [3, 6, 8, 28, 29, 30])]
def an60 : Ann := [(2, [0, 1, 3, 11, 12, 13], [6])]
def an61 : Ann := []
def an62 : Ann := []
def an66 : Ann := [(2, [0, 1, 5], [0, 1, 4])]
def an91 : Ann := [(3, [3, 11, 12, 13], [3])]
def an63 : Ann := []
def an106 : Ann := [(3, [3, 6, 7, 8], [3])]
def an64 : Ann := []
def an89 : Ann := []
def an90 : Ann := [(3, [0, 4, 10, 11, 12], [0, 2, 3, 4]), (11, [4, 7, 28, 29, 30], [7])]
def an77 : Ann := [(5, [1, 2, 8, 21, 22, 23], [6, 7, 8])]
def an103 : Ann := []
def an105 : Ann := []
def an78 : Ann := []
def an104 : Ann := []
def an111 : Ann := []
def an112 : Ann := []
def an113 : Ann := [(1, [0, 1], [0])]
def an110 : Ann := []
def C : Ctx := ⟨tysD, [], [(36, ⟨Try.f36, an36, noSm⟩), (37, ⟨Try.f37, an37, noSm⟩), (38, ⟨Try.f38, an38, noSm⟩), (39, ⟨Try.f39, an39, noSm⟩), (65, ⟨Try.f65, an65, noSm⟩), (60, ⟨Try.f60, an60, noSm⟩), (61, ⟨Try.f61, an61, noSm⟩), (62, ⟨Try.f62, an62, noSm⟩), (66, ⟨Try.f66, an66, noSm⟩), (91, ⟨Try.f91, an91, noSm⟩), (63, ⟨Try.f63, an63, noSm⟩), (106, ⟨Try.f106, an106, noSm⟩), (64, ⟨Try.f64, an64, noSm⟩), (89, ⟨Try.f89, an89, noSm⟩), (90, ⟨Try.f90, an90, noSm⟩), (77, ⟨Try.f77, an77, noSm⟩), (103, ⟨Try.f103, an103, noSm⟩), (105, ⟨Try.f105, an105, noSm⟩), (78, ⟨Try.f78, an78, noSm⟩), (104, ⟨Try.f104, an104, noSm⟩), (111, ⟨Try.f111, an111, noSm⟩), (112, ⟨Try.f112, an112, noSm⟩), (113, ⟨Try.f113, an113, noSm⟩), (110, ⟨Try.f110, an110, noSm⟩)], 100000⟩
theorem ctxOk : CtxOk P C := ctxOk_of tysDOk mixedOk trivial ⟨inlOk_no (by rfl) (by kernel_rfl), inlOk_no (by rfl) (by kernel_rfl), inlOk_no (by rfl) (by kernel_rfl), inlOk_no (by rfl) (by kernel_rfl), inlOk_no (by rfl) (by kernel_rfl), inlOk_no (by rfl) (by kernel_rfl), inlOk_no (by rfl) (by kernel_rfl), inlOk_no (by rfl) (by kernel_rfl), inlOk_no (by rfl) (by kernel_rfl), inlOk_no (by rfl) (by kernel_rfl), inlOk_no (by rfl) (by kernel_rfl), inlOk_no (by rfl) (by kernel_rfl), inlOk_no (by rfl) (by kernel_rfl), inlOk_no (by rfl) (by kernel_rfl), inlOk_no (by rfl) (by kernel_rfl), inlOk_no (by rfl) (by kernel_rfl), inlOk_no (by rfl) (by kernel_rfl), inlOk_no (by rfl) (by kernel_rfl), inlOk_no (by rfl) (by kernel_rfl), inlOk_no (by rfl) (by kernel_rfl), inlOk_no (by rfl) (by kernel_rfl), inlOk_no (by rfl) (by kernel_rfl), inlOk_no (by rfl) (by kernel_rfl), inlOk_no (by rfl) (by kernel_rfl), trivial⟩
theorem run0 : evF C 60 Try.f12 an12 (fun _ => none) [(((.sl (.int .i64)) : K), true), ((.int .i64 : K), false)] [⟨.sl (.sl (.int .i64)), [[(2 : Int), -3, 0]]⟩] = some [.own (.sl (.int .i64)) [[(3 : Int), 2, 0], [0, 0, 1]], .dat (.int .i64) (0 : Int)] := by kernel_rfl
theorem run1 : evF C 60 Try.f12 an12 (fun _ => none) [(((.sl (.int .i64)) : K), true), ((.int .i64 : K), false)] [⟨.sl (.sl (.int .i64)), []⟩] = some [.own (.sl (.int .i64)) [], .dat (.int .i64) (2 : Int)] := by kernel_rfl
def fent : Fent := memo [.sl (.sl (.int .i64))] [([⟨.sl (.sl (.int .i64)), [[(2 : Int), -3, 0]]⟩], [.own (.sl (.int .i64)) [[(3 : Int), 2, 0], [0, 0, 1]], .dat (.int .i64) (0 : Int)]), ([⟨.sl (.sl (.int .i64)), []⟩], [.own (.sl (.int .i64)) [], .dat (.int .i64) (2 : Int)])]
theorem ok : FentOk P 12 fent := memo_ok (by kernel_rfl) ⟨evF_at ctxOk (by rfl) run0, evF_at ctxOk (by rfl) run1, trivial⟩
end memo_solve31
end Go.VI
namespace Go.VI
open Go Go.Proofs
namespace net_weight
def an54 : Ann := [(2, [1, 7, 8, 9], [4])]
def L0.sh : Sh := { sl := [(1, SV.a (SA.d (K.int IntKind.i64))), (7, SV.a (SA.d ((K.int IntKind.i64).pr (K.int IntKind.i64)).st.sl)), (8, SV.a (SA.d (K.int IntKind.i64))), (9, SV.a (SA.d (K.int IntKind.i64)))], os := [], nx := 0 }
def L0.x0 : Sh := { sl := [(4, SV.a (SA.d (K.int IntKind.i64)))], os := [], nx := 0 }
def L0.x1 : Sh := { sl := [(4, SV.j)], os := [], nx := 0 }
def L0.st {α : Type} (N : Nat) (x0 : Int) (x1 : (List (Int × Int))) (x2 : Int) (φ : (Int → Option α)) (x3 : Int) (k0 : (Int → Option α)) (k1 : Option α) : Option α :=
 cond (decide (x3 < x2)) (cond (decide (0 ≤ x3) && decide (x3 < (↑x1.length : Int))) (cond ((x1.getD x3.toNat ((0 : Int), (0 : Int))).fst == x0) (k0 ((x1.getD x3.toNat ((0 : Int), (0 : Int))).snd)) (φ (IntKind.i64.wrap (x3 + 1)))) (none)) (k1 )
def L0.f {α : Type} (N : Nat) (c0 : Int) (c1 : (List (Int × Int))) (c2 : Int) : Nat → Int → (Int → Option α) → Option α → Option α
 | 0, _, _, _ => none
 | n + 1, d0, k0, k1 => L0.st N c0 c1 c2 (fun e0 => L0.f N c0 c1 c2 n e0 k0 k1) d0 k0 k1
def L0.up (d : L0.sh.T) (e0 : Int) : L0.sh.T := ((d.1.1, (d.1.2.1, (d.1.2.2.1, (e0, ())))), ())
def L0.k0 {α : Type} (d : L0.sh.T) (K : Cont α) : (Int → Option α) := fun y0 => K (Exit.ret) (L0.x0.enc ((y0, ()), ()))
def L0.k1 {α : Type} (d : L0.sh.T) (K : Cont α) : Option α := K (Exit.exit 0) (L0.x1.enc (((), ()), ()))
def L0.F {α : Type} (N : Nat) (d : L0.sh.T) (K : Cont α) : Option α := L0.f N d.1.1 d.1.2.1 d.1.2.2.1 N d.1.2.2.2.1 (L0.k0 d K) (L0.k1 d K)
def ents54 {α : Type} (N : Nat) : List (SmE α) := [⟨0, 50, 2, [⟨L0.sh, L0.F N⟩]⟩]
def C (N : Nat) : Ctx := ⟨tys, [], [], N⟩
def L0.B {α : Type} (N : Nat) : Env → Cont α → Option α := evC tys 20 0 (evCall (C N) 50) (evCallQ (C N)) N an54 (smL (ents54 N) 0 50) (loopOf 2 Try.f54)
theorem L0.r {α : Type} (N : Nat) (φ : Env → Option α) (K : Cont α) (d : L0.sh.T) : L0.B N (L0.sh.enc d) (contL φ K (Env.norm 0 [1, 7, 8, 9]) (Env.norm 0 [4])) = L0.st N d.1.1 d.1.2.1 d.1.2.2.1 (fun e0 => φ (L0.sh.enc (L0.up d e0))) d.1.2.2.2.1 (L0.k0 d K) (L0.k1 d K) := by kernel_rfl
theorem L0.e {α : Type} (N : Nat) : ∀ (n : Nat) (d : L0.sh.T) (K : Cont α), evL (L0.B N) (Env.norm 0 [1, 7, 8, 9]) (Env.norm 0 [4]) n (L0.sh.enc d) K = L0.f N d.1.1 d.1.2.1 d.1.2.2.1 n d.1.2.2.2.1 (L0.k0 d K) (L0.k1 d K)
 | 0, d, K => rfl
 | n + 1, d, K => evL_contL.trans ((L0.r N _ K d).trans (congrArg (fun φ => L0.st N d.1.1 d.1.2.1 d.1.2.2.1 φ d.1.2.2.2.1 (L0.k0 d K) (L0.k1 d K)) (funext fun e0 => L0.e N n (L0.up d e0) K)))
theorem ents54_ok {α : Type} (N : Nat) : AllP (EntOk (C N) Try.f54 an54 (ents54 (α := α) N)) (ents54 N) := ⟨entOk_of (b0 := loopOf 2 Try.f54) (li0 := [1, 7, 8, 9]) (lx0 := [4]) (by kernel_rfl) (by kernel_rfl) ⟨fun d K => L0.e N N d K, trivial⟩, trivial⟩
def g {α : Type} (N : Nat) (a0 : List (Int × Int)) (a1 : Int) (kr : (Int → Option α)) : Option α :=
 L0.f N (a1) (a0) ((↑a0.length : Int)) N (0) (fun x4 => kr (x4)) (kr (0))
theorem eq (N : Nat) (a0 : List (Int × Int)) (a1 : Int) : evF (C N) 50 Try.f54 an54 (smL (ents54 N) 0 50) [((.int .i64 : K), false)] [⟨.sl (.st (.pr (.int .i64) (.int .i64))), a0⟩, ⟨.int .i64, a1⟩] = g N a0 a1 (fun r0 => some [.dat (K.int IntKind.i64) r0]) := by kernel_rfl
theorem ctxOk (N : Nat) : CtxOk P (C N) := ctxOk_of tysOk mixedOk trivial trivial
theorem calls (N : Nat) (a0 : List (Int × Int)) (a1 : Int) {rs : List Rs} (h : g N a0 a1 (fun r0 => some [.dat (K.int IntKind.i64) r0]) = some rs) : CallsTo P 54 [⟨.sl (.st (.pr (.int .i64) (.int .i64))), a0⟩, ⟨.int .i64, a1⟩] rs := evF_calls' (ctxOk N) (by rfl) (ents54_ok N) ((eq N a0 a1).trans h)
def L0.l {α : Type} (N : Nat) (x0 : Int) (x1 : (List (Int × Int))) (k0 : (Int → Option α)) (k1 : Option α) : List (Int × Int) → Int → Option α
 | [], x3 => k1 
 | x :: l, x3 => (cond (x.fst == x0) (k0 (x.snd)) (L0.l N x0 x1 k0 k1 l (x3 + 1)))
theorem L0.rng {α : Type} {N : Nat} (x0 : Int) (x1 : (List (Int × Int))) (hl : x1.length ≤ maxLen) (k0 : (Int → Option α)) (k1 : Option α) : ∀ (n j : Nat), x1.length < n + j → j ≤ x1.length → L0.f N x0 x1 (x1.length : Int) n (j : Int) k0 k1 = L0.l N x0 x1 k0 k1 (x1.drop j) (j : Int) :=
 rng0 x1 hl (fun n i => L0.f N x0 x1 (x1.length : Int) n i k0 k1) (fun l i => L0.l N x0 x1 k0 k1 l i) (fun n j hj h ih => by simp only [L0.f, L0.st, L0.l, h.a, h.b, h.c, h.d, h.e, Bool.true_and, Bool.and_true, Bool.and_self, cond_true, ih] <;> rfl) (fun n j h => by simp only [L0.f, L0.st, L0.l, h, cond_false])
end net_weight
theorem net_weight.L0.law {α : Type} {N : Nat} (p : Int) (xs : List (Int × Int)) (k0 : Int → Option α) : ∀ (l : List (Int × Int)) (i : Int),
  net_weight.L0.l N p xs k0 (k0 0) l i = k0 (weightS l p)
 | [], i => rfl
 | x :: l, i => by
  rw [net_weight.L0.l, net_weight.L0.law p xs k0 l, weightS]
  cases x.1 == p <;> rfl
theorem net_weight.law {α : Type} {N : Nat} (hN : 18446744073709551616 ≤ N) (a0 : List (Int × Int)) (a1 : Int) (w0 : K.wf (.sl (.st (.pr (.int .i64) (.int .i64)))) a0) (w1 : K.wf (.int .i64) a1) (kr : (Int → Option α)) : net_weight.g N a0 a1 kr = kr (net_weight.spec a0 a1) := by
 unfold net_weight.g net_weight.spec
 refine (net_weight.L0.rng (N := N) a1 a0 w0.1 (fun x => kr x) (kr 0) N 0 (by have := le_fuel w0.1 hN; omega) (Nat.zero_le _)).trans ?_
 rw [List.drop_zero]
 exact net_weight.L0.law a1 a0 (fun x => kr x) a0 0
theorem net_weight.ok : FentOk P 54 net_weight.fent := fentOk_of (by kernel_rfl) fun ds hk => by
 obtain ⟨a0, l0, rfl, h0⟩ := ds_cons hk
 obtain ⟨a1, l1, rfl, h1⟩ := ds_cons h0
 obtain rfl := ds0 h1
 exact ⟨true, [.dat (.int .i64) (net_weight.spec a0 a1)], fun h hw => net_weight.calls 18446744073709551616 a0 a1 (net_weight.law (Nat.le_refl _) a0 a1 hw.1 hw.2.1 _), fun α k => rfl⟩
end Go.VI
namespace Go.VI
open Go Go.Proofs
namespace net_Name
def an81 : Ann := [(4, [14], [2])]
def L0.sh : Sh := { sl := [(14, SV.a (SA.fx (Atom.box 0 0)))], os := [(0, SO.iter)], nx := 1 }
def L0.x0 : Sh := { sl := [(2, SV.a (SA.d K.bool))], os := [], nx := 0 }
def L0.x1 : Sh := { sl := [(2, SV.j)], os := [], nx := 0 }
def L0.st {α : Type} (N : Nat) (x0 : BA) (φ : (Nat → Option α)) (x1 : Nat) (k0 : (Bool → Option α)) (k1 : Option α) : Option α :=
 cond (decide (x1 < x0.size)) (cond (decide (97 ≤ (↑(Utf8.decode x0 x1).fst : Int))) (cond (decide ((↑(Utf8.decode x0 x1).fst : Int) ≤ 122)) (φ (x1 + (Utf8.decode x0 x1).snd)) (cond ((↑(Utf8.decode x0 x1).fst : Int) == 95) (φ (x1 + (Utf8.decode x0 x1).snd)) (cond (decide (0 < (↑x1 : Int))) (cond (decide (48 ≤ (↑(Utf8.decode x0 x1).fst : Int))) (cond (decide ((↑(Utf8.decode x0 x1).fst : Int) ≤ 57)) (φ (x1 + (Utf8.decode x0 x1).snd)) (cond ((↑(Utf8.decode x0 x1).fst : Int) == 46) (φ (x1 + (Utf8.decode x0 x1).snd)) (k0 (false)))) (cond ((↑(Utf8.decode x0 x1).fst : Int) == 46) (φ (x1 + (Utf8.decode x0 x1).snd)) (k0 (false)))) (k0 (false))))) (cond ((↑(Utf8.decode x0 x1).fst : Int) == 95) (φ (x1 + (Utf8.decode x0 x1).snd)) (cond (decide (0 < (↑x1 : Int))) (cond (decide (48 ≤ (↑(Utf8.decode x0 x1).fst : Int))) (cond (decide ((↑(Utf8.decode x0 x1).fst : Int) ≤ 57)) (φ (x1 + (Utf8.decode x0 x1).snd)) (cond ((↑(Utf8.decode x0 x1).fst : Int) == 46) (φ (x1 + (Utf8.decode x0 x1).snd)) (k0 (false)))) (cond ((↑(Utf8.decode x0 x1).fst : Int) == 46) (φ (x1 + (Utf8.decode x0 x1).snd)) (k0 (false)))) (k0 (false))))) (k1 )
def L0.f {α : Type} (N : Nat) (c0 : BA) : Nat → Nat → (Bool → Option α) → Option α → Option α
 | 0, _, _, _ => none
 | n + 1, d0, k0, k1 => L0.st N c0 (fun e0 => L0.f N c0 n e0 k0 k1) d0 k0 k1
def L0.up (d : L0.sh.T) (e0 : Nat) : L0.sh.T := (((), ()), ((d.2.1.1, e0), ()))
def L0.k0 {α : Type} (d : L0.sh.T) (K : Cont α) : (Bool → Option α) := fun y0 => K (Exit.ret) (L0.x0.enc ((y0, ()), ()))
def L0.k1 {α : Type} (d : L0.sh.T) (K : Cont α) : Option α := K (Exit.exit 0) (L0.x1.enc (((), ()), ()))
def L0.F {α : Type} (N : Nat) (d : L0.sh.T) (K : Cont α) : Option α := L0.f N d.2.1.1 N d.2.1.2 (L0.k0 d K) (L0.k1 d K)
def ents81 {α : Type} (N : Nat) : List (SmE α) := [⟨0, 50, 4, [⟨L0.sh, L0.F N⟩]⟩]
def C (N : Nat) : Ctx := ⟨tys, [], [], N⟩
def L0.B {α : Type} (N : Nat) : Env → Cont α → Option α := evC tys 43 0 (evCall (C N) 50) (evCallQ (C N)) N an81 (smL (ents81 N) 0 50) (loopOf 4 Try.f81)
theorem L0.r {α : Type} (N : Nat) (φ : Env → Option α) (K : Cont α) (d : L0.sh.T) : L0.B N (L0.sh.enc d) (contL φ K (Env.norm 0 [14]) (Env.norm 0 [2])) = L0.st N d.2.1.1 (fun e0 => φ (L0.sh.enc (L0.up d e0))) d.2.1.2 (L0.k0 d K) (L0.k1 d K) := by kernel_rfl
theorem L0.e {α : Type} (N : Nat) : ∀ (n : Nat) (d : L0.sh.T) (K : Cont α), evL (L0.B N) (Env.norm 0 [14]) (Env.norm 0 [2]) n (L0.sh.enc d) K = L0.f N d.2.1.1 n d.2.1.2 (L0.k0 d K) (L0.k1 d K)
 | 0, d, K => rfl
 | n + 1, d, K => evL_contL.trans ((L0.r N _ K d).trans (congrArg (fun φ => L0.st N d.2.1.1 φ d.2.1.2 (L0.k0 d K) (L0.k1 d K)) (funext fun e0 => L0.e N n (L0.up d e0) K)))
theorem ents81_ok {α : Type} (N : Nat) : AllP (EntOk (C N) Try.f81 an81 (ents81 (α := α) N)) (ents81 N) := ⟨entOk_of (b0 := loopOf 4 Try.f81) (li0 := [14]) (lx0 := [2]) (by kernel_rfl) (by kernel_rfl) ⟨fun d K => L0.e N N d K, trivial⟩, trivial⟩
def g {α : Type} (N : Nat) (a0 : BA) (kr : (Bool → Option α)) : Option α :=
 cond (decide ((↑a0.data.toList.length : Int) < 1)) (kr (false)) (cond (decide (16 < (↑a0.data.toList.length : Int))) (kr (false)) (L0.f N (a0) N (0) (fun x2 => kr (x2)) (kr (true))))
theorem eq (N : Nat) (a0 : BA) : evF (C N) 50 Try.f81 an81 (smL (ents81 N) 0 50) [((.bool : K), false)] [⟨.str, a0⟩] = g N a0 (fun r0 => some [.dat (K.bool) r0]) := by kernel_rfl
theorem ctxOk (N : Nat) : CtxOk P (C N) := ctxOk_of tysOk mixedOk trivial trivial
theorem calls (N : Nat) (a0 : BA) {rs : List Rs} (h : g N a0 (fun r0 => some [.dat (K.bool) r0]) = some rs) : CallsTo P 81 [⟨.str, a0⟩] rs := evF_calls' (ctxOk N) (by rfl) (ents81_ok N) ((eq N a0).trans h)
end net_Name
def chkFrom : Nat → List UInt8 → Bool
 | _, [] => true
 | i, c :: l => (letterB c || (decide (0 < i) && otherB c)) && chkFrom (i + 1) l
theorem chkFrom_succ : ∀ (l : List UInt8) (i : Nat), chkFrom (i + 1) l = l.all fun c => letterB c || otherB c
 | [], i => rfl
 | c :: l, i => by
  rw [chkFrom, chkFrom_succ l (i + 1), List.all_cons, decide_eq_true (Nat.succ_pos i), Bool.true_and]
theorem nameL_chk : ∀ (l : List UInt8), l ≠ [] → nameL l = chkFrom 0 l
 | [], h => absurd rfl h
 | c :: l, _ => by
  rw [nameL, chkFrom, chkFrom_succ]
  simp
theorem ble_le (a n : Nat) : decide ((a : Int) ≤ (n : Int)) = Nat.ble a n := by
 by_cases h : a ≤ n
 ·
  rw [Nat.ble_eq_true_of_le h]; exact decide_eq_true (Int.ofNat_le.2 h)
 ·
  have : Nat.ble a n = false := by
   cases hb : Nat.ble a n
   ·
    rfl
   ·
    exact absurd (Nat.le_of_ble_eq_true hb) h
  rw [this]; exact decide_eq_false fun hc => h (Int.ofNat_le.1 hc)
theorem beq_nat (n a : Nat) : ((n : Int) == (a : Int)) = Nat.beq n a := by
 by_cases h : n = a
 ·
  subst h; rw [beq_t rfl]; exact beq_self_eq_true _
 ·
  rw [beq_f h]
  cases hb : ((n : Int) == (a : Int))
  ·
   rfl
  ·
   exact absurd (Int.ofNat_inj.1 (eq_of_beq hb)) h
theorem name_tree {α : Type} (b1 b2 b3 b4 b5 b6 b7 : Bool) (p k : Option α) :
  cond b1 (cond b2 p (cond b3 p (cond b4 (cond b5 (cond b6 p (cond b7 p k)) (cond b7 p k)) k))) (cond b3 p (cond b4 (cond b5 (cond b6 p (cond b7 p k)) (cond b7 p k)) k))
   = cond (((b1 && b2) || b3) || (b4 && ((b5 && b6) || b7))) p k := by
 cases b1 <;> cases b2 <;> cases b3 <;> cases b4 <;> cases b5 <;> cases b6 <;> cases b7 <;> rfl
theorem net_Name.L0.law {α : Type} {N : Nat} (s : BA) (k0 : Bool → Option α) (k1 : Option α) : ∀ (n pos : Nat), s.size < n + pos → pos ≤ s.size →
  net_Name.L0.f N s n pos k0 k1 = cond (chkFrom pos (s.data.toList.drop pos)) k1 (k0 false)
 | 0, pos, h, hp => absurd h (by omega)
 | n + 1, pos, h, hp => by
  rw [net_Name.L0.f, net_Name.L0.st]
  have hsz : s.data.toList.length = s.size := Array.length_toList
  by_cases hlt : pos < s.size
  ·
   have hl : pos < s.data.toList.length := by rw [hsz]; exact hlt
   have hc : s.data.toList[pos] = s[pos]'hlt := by simp [ByteArray.getElem_eq_getElem_data]
   rw [decide_eq_true hlt, cond_true, List.drop_eq_getElem_cons hl, hc, chkFrom, name_tree]
   by_cases ha : (s[pos]'hlt).toNat < 128
   ·
    rw [Go.decode_ascii s pos hlt ha]
    simp only
    rw [net_Name.L0.law s k0 k1 n (pos + 1) (by omega) (by omega)]
    have e1 : decide ((97 : Int) ≤ (((s[pos]'hlt).toNat : Nat) : Int)) = Nat.ble 97 (s[pos]'hlt).toNat := ble_le 97 _
    have e2 : decide ((((s[pos]'hlt).toNat : Nat) : Int) ≤ 122) = Nat.ble (s[pos]'hlt).toNat 122 := ble_le _ 122
    have e3 : ((((s[pos]'hlt).toNat : Nat) : Int) == 95) = Nat.beq (s[pos]'hlt).toNat 95 := beq_nat _ 95
    have e4 : decide ((48 : Int) ≤ (((s[pos]'hlt).toNat : Nat) : Int)) = Nat.ble 48 (s[pos]'hlt).toNat := ble_le 48 _
    have e5 : decide ((((s[pos]'hlt).toNat : Nat) : Int) ≤ 57) = Nat.ble (s[pos]'hlt).toNat 57 := ble_le _ 57
    have e6 : ((((s[pos]'hlt).toNat : Nat) : Int) == 46) = Nat.beq (s[pos]'hlt).toNat 46 := beq_nat _ 46
    have e7 : decide ((0 : Int) < (pos : Int)) = decide (0 < pos) := by
     by_cases h0 : 0 < pos
     ·
      rw [decide_eq_true h0]; exact decide_eq_true (by omega)
     ·
      rw [decide_eq_false h0]; exact decide_eq_false (by omega)
    rw [e1, e2, e3, e4, e5, e6, e7]
    unfold letterB otherB
    cases (Nat.ble 97 (s[pos]'hlt).toNat && Nat.ble (s[pos]'hlt).toNat 122 || Nat.beq (s[pos]'hlt).toNat 95) || (decide (0 < pos) && (Nat.ble 48 (s[pos]'hlt).toNat && Nat.ble (s[pos]'hlt).toNat 57 || Nat.beq (s[pos]'hlt).toNat 46)) <;> rfl
   ·
    have hd := (Go.decode_high s pos hlt (by omega)).1
    have f1 : decide ((((Utf8.decode s pos).1 : Nat) : Int) ≤ 122) = false := decide_eq_false (by omega)
    have f2 : ((((Utf8.decode s pos).1 : Nat) : Int) == 95) = false := by
     cases hb : ((((Utf8.decode s pos).1 : Nat) : Int) == 95)
     ·
      rfl
     ·
      have := eq_of_beq hb; omega
    have f3 : decide ((((Utf8.decode s pos).1 : Nat) : Int) ≤ 57) = false := decide_eq_false (by omega)
    have f4 : ((((Utf8.decode s pos).1 : Nat) : Int) == 46) = false := by
     cases hb : ((((Utf8.decode s pos).1 : Nat) : Int) == 46)
     ·
      rfl
     ·
      have := eq_of_beq hb; omega
    have g1 : letterB (s[pos]'hlt) = false := by
     unfold letterB
     have a1 : Nat.ble (s[pos]'hlt).toNat 122 = false := by
      cases hb : Nat.ble (s[pos]'hlt).toNat 122
      ·
       rfl
      ·
       have := Nat.le_of_ble_eq_true hb; omega
     rw [a1, beq_f (by omega)]
     simp
    have g2 : otherB (s[pos]'hlt) = false := by
     unfold otherB
     have a1 : Nat.ble (s[pos]'hlt).toNat 57 = false := by
      cases hb : Nat.ble (s[pos]'hlt).toNat 57
      ·
       rfl
      ·
       have := Nat.le_of_ble_eq_true hb; omega
     rw [a1, beq_f (by omega)]
     simp
    rw [f1, f2, f3, f4, g1, g2]
    simp
  ·
   rw [decide_eq_false hlt, cond_false, List.drop_eq_nil_of_le (by rw [hsz]; omega)]
   rfl
theorem net_Name.law {α : Type} {N : Nat} (hN : 18446744073709551616 ≤ N) (a0 : BA) (w0 : K.wf (.str) a0) (kr : (Bool → Option α)) : net_Name.g N a0 kr = kr (net_Name.spec a0) := by
 unfold net_Name.g net_Name.spec nameOk
 have hsz : a0.data.toList.length = a0.size := Array.length_toList
 by_cases h1 : a0.data.toList.length < 1
 ·
  have e1 : decide ((a0.data.toList.length : Int) < 1) = true := decide_eq_true (by omega)
  have hn : a0.data.toList = [] := List.eq_nil_of_length_eq_zero (by omega)
  rw [e1, cond_true, hn]
  rfl
 ·
  have e1 : decide ((a0.data.toList.length : Int) < 1) = false := decide_eq_false (by omega)
  rw [e1, cond_false]
  by_cases h2 : 16 < a0.data.toList.length
  ·
   have e2 : decide (16 < (a0.data.toList.length : Int)) = true := decide_eq_true (by omega)
   have e3 : Nat.ble a0.data.toList.length 16 = false := by
    cases hb : Nat.ble a0.data.toList.length 16
    ·
     rfl
    ·
     have := Nat.le_of_ble_eq_true hb; omega
   rw [e2, cond_true, e3]
   rfl
  ·
   have e2 : decide (16 < (a0.data.toList.length : Int)) = false := decide_eq_false (by omega)
   rw [e2, cond_false, Nat.ble_eq_true_of_le (show a0.data.toList.length ≤ 16 by omega), Bool.true_and, nameL_chk _ (fun hc => h1 (by rw [hc]; exact Nat.one_pos))]
   refine (net_Name.L0.law (N := N) a0 (fun x => kr x) (kr true) N 0 (by omega) (Nat.zero_le _)).trans ?_
   rw [List.drop_zero]
   cases chkFrom 0 a0.data.toList <;> rfl
theorem net_Name.ok : FentOk P 81 net_Name.fent := fentOk_of (by kernel_rfl) fun ds hk => by
 obtain ⟨a0, l0, rfl, h0⟩ := ds_cons hk
 obtain rfl := ds0 h0
 exact ⟨true, [.dat (.bool) (net_Name.spec a0)], fun h hw => net_Name.calls 18446744073709551616 a0 (net_Name.law (Nat.le_refl _) a0 hw.1 _), fun α k => rfl⟩
end Go.VI
namespace Go.VI
open Go Go.Proofs
namespace marking_Valid
def an56 : Ann := [(4, [11, 12, 13], [4])]
def L0.sh : Sh := { sl := [(11, SV.a (SA.d (K.int IntKind.i64).sl)), (12, SV.a (SA.d (K.int IntKind.i64))), (13, SV.a (SA.d (K.int IntKind.i64)))], os := [], nx := 0 }
def L0.x0 : Sh := { sl := [(4, SV.a (SA.d K.bool))], os := [], nx := 0 }
def L0.x1 : Sh := { sl := [(4, SV.j)], os := [], nx := 0 }
def L0.st {α : Type} (N : Nat) (x0 : (List Int)) (x1 : Int) (φ : (Int → Option α)) (x2 : Int) (k0 : (Bool → Option α)) (k1 : Option α) : Option α :=
 cond (decide (x2 < x1)) (cond (decide (0 ≤ x2) && decide (x2 < (↑x0.length : Int))) (cond (decide (x0.getD x2.toNat 0 < 0)) (k0 (false)) (cond (decide (1048576 < x0.getD x2.toNat (0 : Int))) (k0 (false)) (φ (IntKind.i64.wrap (x2 + 1))))) (none)) (k1 )
def L0.f {α : Type} (N : Nat) (c0 : (List Int)) (c1 : Int) : Nat → Int → (Bool → Option α) → Option α → Option α
 | 0, _, _, _ => none
 | n + 1, d0, k0, k1 => L0.st N c0 c1 (fun e0 => L0.f N c0 c1 n e0 k0 k1) d0 k0 k1
def L0.up (d : L0.sh.T) (e0 : Int) : L0.sh.T := ((d.1.1, (d.1.2.1, (e0, ()))), ())
def L0.k0 {α : Type} (d : L0.sh.T) (K : Cont α) : (Bool → Option α) := fun y0 => K (Exit.ret) (L0.x0.enc ((y0, ()), ()))
def L0.k1 {α : Type} (d : L0.sh.T) (K : Cont α) : Option α := K (Exit.exit 0) (L0.x1.enc (((), ()), ()))
def L0.F {α : Type} (N : Nat) (d : L0.sh.T) (K : Cont α) : Option α := L0.f N d.1.1 d.1.2.1 N d.1.2.2.1 (L0.k0 d K) (L0.k1 d K)
def ents56 {α : Type} (N : Nat) : List (SmE α) := [⟨0, 50, 4, [⟨L0.sh, L0.F N⟩]⟩]
def C (N : Nat) : Ctx := ⟨tys, [], [], N⟩
def L0.B {α : Type} (N : Nat) : Env → Cont α → Option α := evC tys 24 0 (evCall (C N) 50) (evCallQ (C N)) N an56 (smL (ents56 N) 0 50) (loopOf 4 Try.f56)
theorem L0.r {α : Type} (N : Nat) (φ : Env → Option α) (K : Cont α) (d : L0.sh.T) : L0.B N (L0.sh.enc d) (contL φ K (Env.norm 0 [11, 12, 13]) (Env.norm 0 [4])) = L0.st N d.1.1 d.1.2.1 (fun e0 => φ (L0.sh.enc (L0.up d e0))) d.1.2.2.1 (L0.k0 d K) (L0.k1 d K) := by kernel_rfl
theorem L0.e {α : Type} (N : Nat) : ∀ (n : Nat) (d : L0.sh.T) (K : Cont α), evL (L0.B N) (Env.norm 0 [11, 12, 13]) (Env.norm 0 [4]) n (L0.sh.enc d) K = L0.f N d.1.1 d.1.2.1 n d.1.2.2.1 (L0.k0 d K) (L0.k1 d K)
 | 0, d, K => rfl
 | n + 1, d, K => evL_contL.trans ((L0.r N _ K d).trans (congrArg (fun φ => L0.st N d.1.1 d.1.2.1 φ d.1.2.2.1 (L0.k0 d K) (L0.k1 d K)) (funext fun e0 => L0.e N n (L0.up d e0) K)))
theorem ents56_ok {α : Type} (N : Nat) : AllP (EntOk (C N) Try.f56 an56 (ents56 (α := α) N)) (ents56 N) := ⟨entOk_of (b0 := loopOf 4 Try.f56) (li0 := [11, 12, 13]) (lx0 := [4]) (by kernel_rfl) (by kernel_rfl) ⟨fun d K => L0.e N N d K, trivial⟩, trivial⟩
def g {α : Type} (N : Nat) (a0 : List Int) (a1 : Int) (kr : (Bool → Option α)) : Option α :=
 cond ((↑a0.length : Int) != a1) (kr (false)) (L0.f N (a0) ((↑a0.length : Int)) N (0) (fun x3 => kr (x3)) (kr (true)))
theorem eq (N : Nat) (a0 : List Int) (a1 : Int) : evF (C N) 50 Try.f56 an56 (smL (ents56 N) 0 50) [((.bool : K), false)] [⟨.sl (.int .i64), a0⟩, ⟨.int .i64, a1⟩] = g N a0 a1 (fun r0 => some [.dat (K.bool) r0]) := by kernel_rfl
theorem ctxOk (N : Nat) : CtxOk P (C N) := ctxOk_of tysOk mixedOk trivial trivial
theorem calls (N : Nat) (a0 : List Int) (a1 : Int) {rs : List Rs} (h : g N a0 a1 (fun r0 => some [.dat (K.bool) r0]) = some rs) : CallsTo P 56 [⟨.sl (.int .i64), a0⟩, ⟨.int .i64, a1⟩] rs := evF_calls' (ctxOk N) (by rfl) (ents56_ok N) ((eq N a0 a1).trans h)
def L0.l {α : Type} (N : Nat) (x0 : (List Int)) (k0 : (Bool → Option α)) (k1 : Option α) : List Int → Int → Option α
 | [], x2 => k1 
 | x :: l, x2 => (cond (decide (x < 0)) (k0 (false)) (cond (decide (1048576 < x)) (k0 (false)) (L0.l N x0 k0 k1 l (x2 + 1))))
theorem L0.rng {α : Type} {N : Nat} (x0 : (List Int)) (hl : x0.length ≤ maxLen) (k0 : (Bool → Option α)) (k1 : Option α) : ∀ (n j : Nat), x0.length < n + j → j ≤ x0.length → L0.f N x0 (x0.length : Int) n (j : Int) k0 k1 = L0.l N x0 k0 k1 (x0.drop j) (j : Int) :=
 rng0 x0 hl (fun n i => L0.f N x0 (x0.length : Int) n i k0 k1) (fun l i => L0.l N x0 k0 k1 l i) (fun n j hj h ih => by simp only [L0.f, L0.st, L0.l, h.a, h.b, h.c, h.d, h.e, Bool.true_and, Bool.and_true, Bool.and_self, cond_true, ih] <;> rfl) (fun n j h => by simp only [L0.f, L0.st, L0.l, h, cond_false])
end marking_Valid
theorem marking_Valid.L0.law {α : Type} {N : Nat} (xs : List Int) (k0 : Bool → Option α) (k1 : Option α) : ∀ (l : List Int) (i : Int),
  marking_Valid.L0.l N xs k0 k1 l i = cond (l.all fun k => decide (0 ≤ k) && decide (k ≤ 1048576)) k1 (k0 false)
 | [], i => rfl
 | x :: l, i => by
  rw [marking_Valid.L0.l, marking_Valid.L0.law xs k0 k1 l, List.all_cons]
  by_cases h1 : x < 0
  ·
   have e2 : decide (0 ≤ x) = false := decide_eq_false (by omega)
   rw [decide_eq_true h1, e2]
   rfl
  ·
   have e2 : decide (0 ≤ x) = true := decide_eq_true (by omega)
   rw [decide_eq_false h1, e2, cond_false, Bool.true_and]
   by_cases h3 : 1048576 < x
   ·
    have e4 : decide (x ≤ 1048576) = false := decide_eq_false (by omega)
    rw [decide_eq_true h3, e4]
    rfl
   ·
    have e4 : decide (x ≤ 1048576) = true := decide_eq_true (by omega)
    rw [decide_eq_false h3, e4]
    rfl
theorem marking_Valid.law {α : Type} {N : Nat} (hN : 18446744073709551616 ≤ N) (a0 : List Int) (a1 : Int) (w0 : K.wf (.sl (.int .i64)) a0) (w1 : K.wf (.int .i64) a1) (kr : (Bool → Option α)) : marking_Valid.g N a0 a1 kr = kr (marking_Valid.spec a0 a1) := by
 unfold marking_Valid.g marking_Valid.spec
 by_cases h : (a0.length : Int) = a1
 ·
  have e1 : ((a0.length : Int) != a1) = false := by rw [h]; exact bne_self_eq_false _
  rw [e1, cond_false, decide_eq_true h, Bool.true_and]
  refine (marking_Valid.L0.rng (N := N) a0 w0.1 (fun x => kr x) (kr true) N 0 (by have := le_fuel w0.1 hN; omega) (Nat.zero_le _)).trans ?_
  rw [List.drop_zero, marking_Valid.L0.law]
  cases a0.all fun k => decide (0 ≤ k) && decide (k ≤ 1048576) <;> rfl
 ·
  have e1 : ((a0.length : Int) != a1) = true := bne_iff_ne.2 h
  rw [e1, cond_true, decide_eq_false h, Bool.false_and]
theorem marking_Valid.ok : FentOk P 56 marking_Valid.fent := fentOk_of (by kernel_rfl) fun ds hk => by
 obtain ⟨a0, l0, rfl, h0⟩ := ds_cons hk
 obtain ⟨a1, l1, rfl, h1⟩ := ds_cons h0
 obtain rfl := ds0 h1
 exact ⟨true, [.dat (.bool) (marking_Valid.spec a0 a1)], fun h hw => marking_Valid.calls 18446744073709551616 a0 a1 (marking_Valid.law (Nat.le_refl _) a0 a1 hw.1 hw.2.1 _), fun α k => rfl⟩
end Go.VI
namespace Go.VI
open Go Go.Proofs
namespace net_checkPlace
def an83 : Ann := []
def ents83 {α : Type} (N : Nat) : List (SmE α) := []
def C (N : Nat) : Ctx := ⟨tys, [(56, marking_Valid.fent)], [], N⟩
theorem ents83_ok {α : Type} (N : Nat) : AllP (EntOk (C N) Try.f83 an83 (ents83 (α := α) N)) (ents83 N) := trivial
def g {α : Type} (N : Nat) (a0 : BA × Int × Int) (kr : (Int → Option α)) : Option α :=
 cond (decide (a0.snd.snd < 0)) (kr (1)) (cond (decide (1048576 < a0.snd.snd)) (kr (1)) (cond (!(marking_Valid.spec [a0.snd.fst] 1)) (kr (10)) (cond (a0.snd.snd != 0) (cond (decide (a0.snd.snd < a0.snd.fst)) (kr (10)) (kr (0))) (kr (0)))))
theorem eq (N : Nat) (a0 : BA × Int × Int) : evF (C N) 50 Try.f83 an83 (smL (ents83 N) 0 50) [((.int .i64 : K), false)] [⟨.st (.pr (.str) (.pr (.int .i64) (.int .i64))), a0⟩] = g N a0 (fun r0 => some [.dat (K.int IntKind.i64) r0]) := by kernel_rfl
theorem ctxOk (N : Nat) : CtxOk P (C N) := ctxOk_of tysOk mixedOk ⟨marking_Valid.ok, trivial⟩ trivial
theorem calls (N : Nat) (a0 : BA × Int × Int) {rs : List Rs} (h : g N a0 (fun r0 => some [.dat (K.int IntKind.i64) r0]) = some rs) : CallsTo P 83 [⟨.st (.pr (.str) (.pr (.int .i64) (.int .i64))), a0⟩] rs := evF_calls' (ctxOk N) (by rfl) (ents83_ok N) ((eq N a0).trans h)
end net_checkPlace
theorem net_checkPlace.law {α : Type} {N : Nat} (hN : 18446744073709551616 ≤ N) (a0 : BA × Int × Int) (w0 : K.wf (.st (.pr (.str) (.pr (.int .i64) (.int .i64)))) a0) (kr : (Int → Option α)) : net_checkPlace.g N a0 kr = kr (net_checkPlace.spec a0) := by
 unfold net_checkPlace.g net_checkPlace.spec placeE marking_Valid.spec
 obtain ⟨nm, ini, cap⟩ := a0
 simp only [List.all_cons, List.all_nil, Bool.and_true, List.length_singleton]
 have e0 : decide (((1 : Nat) : Int) = 1) = true := rfl
 have e1 : (decide (0 ≤ ini) && decide (ini ≤ 1048576)) = !(decide (ini < 0) || decide (1048576 < ini)) := by
  by_cases h1 : ini < 0
  ·
   rw [decide_eq_true h1, decide_eq_false (show ¬ 0 ≤ ini by omega)]; rfl
  ·
   rw [decide_eq_false h1, decide_eq_true (show 0 ≤ ini by omega)]
   by_cases h2 : 1048576 < ini
   ·
    rw [decide_eq_true h2, decide_eq_false (show ¬ ini ≤ 1048576 by omega)]; rfl
   ·
    rw [decide_eq_false h2, decide_eq_true (show ini ≤ 1048576 by omega)]; rfl
 have e2 : (cap != 0) = !(cap == 0) := rfl
 rw [e0, Bool.true_and, e1, e2]
 cases decide (cap < 0) <;> cases decide (1048576 < cap) <;> cases decide (ini < 0) <;> cases decide (1048576 < ini) <;> cases (cap == 0) <;> cases decide (cap < ini) <;> rfl
theorem net_checkPlace.ok : FentOk P 83 net_checkPlace.fent := fentOk_of (by kernel_rfl) fun ds hk => by
 obtain ⟨a0, l0, rfl, h0⟩ := ds_cons hk
 obtain rfl := ds0 h0
 exact ⟨true, [.dat (.int .i64) (net_checkPlace.spec a0)], fun h hw => net_checkPlace.calls 18446744073709551616 a0 (net_checkPlace.law (Nat.le_refl _) a0 hw.1 _), fun α k => rfl⟩
end Go.VI
namespace Go.VI
open Go Go.Proofs
namespace net_checkArcs
def an101 : Ann := [(2, [0, 1, 7, 8, 9], [4])]
def L0.sh : Sh := { sl := [(0, SV.a (SA.d ((K.int IntKind.i64).pr (K.int IntKind.i64)).st.sl)), (1, SV.a (SA.d (K.int IntKind.i64))), (7, SV.a (SA.d ((K.int IntKind.i64).pr (K.int IntKind.i64)).st.sl)), (8, SV.a (SA.d (K.int IntKind.i64))), (9, SV.a (SA.d (K.int IntKind.i64)))], os := [], nx := 0 }
def L0.x0 : Sh := { sl := [(4, SV.a (SA.d (K.int IntKind.i64)))], os := [], nx := 0 }
def L0.x1 : Sh := { sl := [(4, SV.j)], os := [], nx := 0 }
def L0.st {α : Type} (N : Nat) (x0 : (List (Int × Int))) (x1 : Int) (x2 : (List (Int × Int))) (x3 : Int) (φ : (Int → Option α)) (x4 : Int) (k0 : (Int → Option α)) (k1 : Option α) : Option α :=
 cond (decide (x4 < x3)) (cond (decide (0 ≤ x4) && decide (x4 < (↑x2.length : Int))) (cond (decide ((x2.getD x4.toNat ((0 : Int), (0 : Int))).fst < 0)) (k0 (7)) (cond (decide (x1 ≤ (x2.getD x4.toNat ((0 : Int), (0 : Int))).fst)) (k0 (7)) (cond (decide (0 < x4)) (cond (decide (0 ≤ IntKind.i64.wrap (x4 - 1)) && decide (IntKind.i64.wrap (x4 - 1) < (↑x0.length : Int))) (cond (decide ((x2.getD x4.toNat ((0 : Int), (0 : Int))).fst ≤ (x0.getD (IntKind.i64.wrap (x4 - 1)).toNat ((0 : Int), (0 : Int))).fst)) (k0 (8)) (cond (decide ((x2.getD x4.toNat ((0 : Int), (0 : Int))).snd < 1)) (k0 (9)) (cond (decide (99 < (x2.getD x4.toNat ((0 : Int), (0 : Int))).snd)) (k0 (9)) (φ (IntKind.i64.wrap (x4 + 1)))))) (none)) (cond (decide ((x2.getD x4.toNat ((0 : Int), (0 : Int))).snd < 1)) (k0 (9)) (cond (decide (99 < (x2.getD x4.toNat ((0 : Int), (0 : Int))).snd)) (k0 (9)) (φ (IntKind.i64.wrap (x4 + 1)))))))) (none)) (k1 )
def L0.f {α : Type} (N : Nat) (c0 : (List (Int × Int))) (c1 : Int) (c2 : (List (Int × Int))) (c3 : Int) : Nat → Int → (Int → Option α) → Option α → Option α
 | 0, _, _, _ => none
 | n + 1, d0, k0, k1 => L0.st N c0 c1 c2 c3 (fun e0 => L0.f N c0 c1 c2 c3 n e0 k0 k1) d0 k0 k1
def L0.up (d : L0.sh.T) (e0 : Int) : L0.sh.T := ((d.1.1, (d.1.2.1, (d.1.2.2.1, (d.1.2.2.2.1, (e0, ()))))), ())
def L0.k0 {α : Type} (d : L0.sh.T) (K : Cont α) : (Int → Option α) := fun y0 => K (Exit.ret) (L0.x0.enc ((y0, ()), ()))
def L0.k1 {α : Type} (d : L0.sh.T) (K : Cont α) : Option α := K (Exit.exit 0) (L0.x1.enc (((), ()), ()))
def L0.F {α : Type} (N : Nat) (d : L0.sh.T) (K : Cont α) : Option α := L0.f N d.1.1 d.1.2.1 d.1.2.2.1 d.1.2.2.2.1 N d.1.2.2.2.2.1 (L0.k0 d K) (L0.k1 d K)
def ents101 {α : Type} (N : Nat) : List (SmE α) := [⟨0, 50, 2, [⟨L0.sh, L0.F N⟩]⟩]
def C (N : Nat) : Ctx := ⟨tys, [], [], N⟩
def L0.B {α : Type} (N : Nat) : Env → Cont α → Option α := evC tys 48 0 (evCall (C N) 50) (evCallQ (C N)) N an101 (smL (ents101 N) 0 50) (loopOf 2 Try.f101)
theorem L0.r {α : Type} (N : Nat) (φ : Env → Option α) (K : Cont α) (d : L0.sh.T) : L0.B N (L0.sh.enc d) (contL φ K (Env.norm 0 [0, 1, 7, 8, 9]) (Env.norm 0 [4])) = L0.st N d.1.1 d.1.2.1 d.1.2.2.1 d.1.2.2.2.1 (fun e0 => φ (L0.sh.enc (L0.up d e0))) d.1.2.2.2.2.1 (L0.k0 d K) (L0.k1 d K) := by kernel_rfl
theorem L0.e {α : Type} (N : Nat) : ∀ (n : Nat) (d : L0.sh.T) (K : Cont α), evL (L0.B N) (Env.norm 0 [0, 1, 7, 8, 9]) (Env.norm 0 [4]) n (L0.sh.enc d) K = L0.f N d.1.1 d.1.2.1 d.1.2.2.1 d.1.2.2.2.1 n d.1.2.2.2.2.1 (L0.k0 d K) (L0.k1 d K)
 | 0, d, K => rfl
 | n + 1, d, K => evL_contL.trans ((L0.r N _ K d).trans (congrArg (fun φ => L0.st N d.1.1 d.1.2.1 d.1.2.2.1 d.1.2.2.2.1 φ d.1.2.2.2.2.1 (L0.k0 d K) (L0.k1 d K)) (funext fun e0 => L0.e N n (L0.up d e0) K)))
theorem ents101_ok {α : Type} (N : Nat) : AllP (EntOk (C N) Try.f101 an101 (ents101 (α := α) N)) (ents101 N) := ⟨entOk_of (b0 := loopOf 2 Try.f101) (li0 := [0, 1, 7, 8, 9]) (lx0 := [4]) (by kernel_rfl) (by kernel_rfl) ⟨fun d K => L0.e N N d K, trivial⟩, trivial⟩
def g {α : Type} (N : Nat) (a0 : List (Int × Int)) (a1 : Int) (kr : (Int → Option α)) : Option α :=
 L0.f N (a0) (a1) (a0) ((↑a0.length : Int)) N (0) (fun x5 => kr (x5)) (kr (0))
theorem eq (N : Nat) (a0 : List (Int × Int)) (a1 : Int) : evF (C N) 50 Try.f101 an101 (smL (ents101 N) 0 50) [((.int .i64 : K), false)] [⟨.sl (.st (.pr (.int .i64) (.int .i64))), a0⟩, ⟨.int .i64, a1⟩] = g N a0 a1 (fun r0 => some [.dat (K.int IntKind.i64) r0]) := by kernel_rfl
theorem ctxOk (N : Nat) : CtxOk P (C N) := ctxOk_of tysOk mixedOk trivial trivial
theorem calls (N : Nat) (a0 : List (Int × Int)) (a1 : Int) {rs : List Rs} (h : g N a0 a1 (fun r0 => some [.dat (K.int IntKind.i64) r0]) = some rs) : CallsTo P 101 [⟨.sl (.st (.pr (.int .i64) (.int .i64))), a0⟩, ⟨.int .i64, a1⟩] rs := evF_calls' (ctxOk N) (by rfl) (ents101_ok N) ((eq N a0 a1).trans h)
def L0.l {α : Type} (N : Nat) (x0 : (List (Int × Int))) (x1 : Int) (x2 : (List (Int × Int))) (k0 : (Int → Option α)) (k1 : Option α) : List (Int × Int) → Int → Option α
 | [], x4 => k1 
 | x :: l, x4 => (cond (decide (x.fst < 0)) (k0 (7)) (cond (decide (x1 ≤ x.fst)) (k0 (7)) (cond (decide (0 < x4)) (cond (decide (0 ≤ IntKind.i64.wrap (x4 - 1)) && decide (IntKind.i64.wrap (x4 - 1) < (↑x0.length : Int))) (cond (decide (x.fst ≤ (x0.getD (IntKind.i64.wrap (x4 - 1)).toNat ((0 : Int), (0 : Int))).fst)) (k0 (8)) (cond (decide (x.snd < 1)) (k0 (9)) (cond (decide (99 < x.snd)) (k0 (9)) (L0.l N x0 x1 x2 k0 k1 l (x4 + 1))))) (none)) (cond (decide (x.snd < 1)) (k0 (9)) (cond (decide (99 < x.snd)) (k0 (9)) (L0.l N x0 x1 x2 k0 k1 l (x4 + 1)))))))
theorem L0.rng {α : Type} {N : Nat} (x0 : (List (Int × Int))) (x1 : Int) (x2 : (List (Int × Int))) (hl : x2.length ≤ maxLen) (k0 : (Int → Option α)) (k1 : Option α) : ∀ (n j : Nat), x2.length < n + j → j ≤ x2.length → L0.f N x0 x1 x2 (x2.length : Int) n (j : Int) k0 k1 = L0.l N x0 x1 x2 k0 k1 (x2.drop j) (j : Int) :=
 rng0 x2 hl (fun n i => L0.f N x0 x1 x2 (x2.length : Int) n i k0 k1) (fun l i => L0.l N x0 x1 x2 k0 k1 l i) (fun n j hj h ih => by simp only [L0.f, L0.st, L0.l, h.a, h.b, h.c, h.d, h.e, Bool.true_and, Bool.and_true, Bool.and_self, cond_true, ih] <;> rfl) (fun n j h => by simp only [L0.f, L0.st, L0.l, h, cond_false])
end net_checkArcs
def prevA (a : List (Int × Int)) : Nat → Option Int
 | 0 => none
 | j + 1 => some (a.getD j (0, 0)).1
theorem arcsE_cons (np : Int) (prev : Option Int) (a : Int × Int) (l : List (Int × Int)) : arcsE np prev (a :: l) = cond (decide (a.1 < 0) || decide (np ≤ a.1)) (7 : Int) (cond (match prev with | some q => decide (a.1 ≤ q) | none => false) (8 : Int) (cond (decide (a.2 < 1) || decide (99 < a.2)) (9 : Int) (arcsE np (some a.1) l))) := by
 cases prev <;> rfl
theorem arcs_tree {α : Type} (b1 b2 b3 b4 b5 : Bool) (e : Int) (k0 : Int → Option α) :
  cond b1 (k0 7) (cond b2 (k0 7) (cond b3 (k0 8) (cond b4 (k0 9) (cond b5 (k0 9) (k0 e))))) = k0 (cond (b1 || b2) 7 (cond b3 8 (cond (b4 || b5) 9 e))) := by
 cases b1 <;> cases b2 <;> cases b3 <;> cases b4 <;> cases b5 <;> rfl
theorem net_checkArcs.L0.law {α : Type} {N : Nat} (a : List (Int × Int)) (ha : a.length ≤ maxLen) (np : Int) (xs : List (Int × Int)) (k0 : Int → Option α) : ∀ (l : List (Int × Int)) (j : Nat), l = a.drop j →
  net_checkArcs.L0.l N a np xs k0 (k0 0) l (j : Int) = k0 (arcsE np (prevA a j) l)
 | [], j, _ => rfl
 | x :: l, j, hl => by
  obtain ⟨hj, hx, hl'⟩ := drop_step hl
  have ih := net_checkArcs.L0.law (N := N) a ha np xs k0 l (j + 1) hl'
  have hp : prevA a (j + 1) = some x.1 := by rw [prevA, getD_n hj, hx]
  rw [hp, succ_cast] at ih
  rw [net_checkArcs.L0.l, ih, arcsE_cons]
  cases j with
  | zero =>
   have e3 : decide ((0 : Int) < ((0 : Nat) : Int)) = false := rfl
   rw [e3, cond_false]
   exact arcs_tree _ _ false _ _ _ k0
  | succ i =>
   have e3 : decide ((0 : Int) < ((i + 1 : Nat) : Int)) = true := decide_eq_true (by omega)
   have e4 : IntKind.i64.wrap (((i + 1 : Nat) : Int) - 1) = (i : Int) := by
    unfold maxLen at ha
    rw [wrap_i64 (inI_i64.2 (by omega))]
    omega
   rw [e3, cond_true, e4, d_0, d_lt (show i < a.length by omega), Bool.and_self, cond_true, Int.toNat_natCast]
   exact arcs_tree _ _ _ _ _ _ k0
theorem net_checkArcs.law {α : Type} {N : Nat} (hN : 18446744073709551616 ≤ N) (a0 : List (Int × Int)) (a1 : Int) (w0 : K.wf (.sl (.st (.pr (.int .i64) (.int .i64)))) a0) (w1 : K.wf (.int .i64) a1) (kr : (Int → Option α)) : net_checkArcs.g N a0 a1 kr = kr (net_checkArcs.spec a0 a1) := by
 unfold net_checkArcs.g net_checkArcs.spec
 refine (net_checkArcs.L0.rng (N := N) a0 a1 a0 w0.1 (fun x => kr x) (kr 0) N 0 (by have := le_fuel w0.1 hN; omega) (Nat.zero_le _)).trans ?_
 rw [List.drop_zero]
 exact net_checkArcs.L0.law (N := N) a0 w0.1 a1 a0 (fun x => kr x) a0 0 rfl
theorem net_checkArcs.ok : FentOk P 101 net_checkArcs.fent := fentOk_of (by kernel_rfl) fun ds hk => by
 obtain ⟨a0, l0, rfl, h0⟩ := ds_cons hk
 obtain ⟨a1, l1, rfl, h1⟩ := ds_cons h0
 obtain rfl := ds0 h1
 exact ⟨true, [.dat (.int .i64) (net_checkArcs.spec a0 a1)], fun h hw => net_checkArcs.calls 18446744073709551616 a0 a1 (net_checkArcs.law (Nat.le_refl _) a0 a1 hw.1 hw.2.1 _), fun α k => rfl⟩
end Go.VI
namespace Go.VI
open Go Go.Proofs
namespace net_checkTrans
def an84 : Ann := [(4, [1, 22, 23, 24], [4])]
def L0.sh : Sh := { sl := [(1, SV.a (SA.d (K.int IntKind.i64))), (22, SV.a (SA.fx (Atom.sl 0 0 none))), (23, SV.a (SA.d (K.int IntKind.i64))), (24, SV.a (SA.d (K.int IntKind.i64)))], os := [(0, SO.row ((K.int IntKind.i64).pr (K.int IntKind.i64)).st.sl 0)], nx := 1 }
def L0.x0 : Sh := { sl := [(4, SV.a (SA.d (K.int IntKind.i64)))], os := [], nx := 0 }
def L0.x1 : Sh := { sl := [(4, SV.j)], os := [], nx := 0 }
def L0.st {α : Type} (N : Nat) (x0 : Int) (x1 : Int) (x3 : (List (List (Int × Int)))) (φ : (Int → Option α)) (x2 : Int) (k0 : (Int → Option α)) (k1 : Option α) : Option α :=
 cond (decide (x2 < x1)) (cond (decide (0 ≤ x2) && decide (x2 < (↑x3.length : Int))) (cond ((net_checkArcs.spec (x3.getD (0 + x2.toNat) []) x0) != 0) (k0 ((net_checkArcs.spec (x3.getD (0 + x2.toNat) []) x0))) (φ (IntKind.i64.wrap (x2 + 1)))) (none)) (k1 )
def L0.f {α : Type} (N : Nat) (c0 : Int) (c1 : Int) (c2 : (List (List (Int × Int)))) : Nat → Int → (Int → Option α) → Option α → Option α
 | 0, _, _, _ => none
 | n + 1, d0, k0, k1 => L0.st N c0 c1 c2 (fun e0 => L0.f N c0 c1 c2 n e0 k0 k1) d0 k0 k1
def L0.up (d : L0.sh.T) (e0 : Int) : L0.sh.T := ((d.1.1, ((), (d.1.2.2.1, (e0, ())))), (d.2.1, ()))
def L0.k0 {α : Type} (d : L0.sh.T) (K : Cont α) : (Int → Option α) := fun y0 => K (Exit.ret) (L0.x0.enc ((y0, ()), ()))
def L0.k1 {α : Type} (d : L0.sh.T) (K : Cont α) : Option α := K (Exit.exit 0) (L0.x1.enc (((), ()), ()))
def L0.F {α : Type} (N : Nat) (d : L0.sh.T) (K : Cont α) : Option α := L0.f N d.1.1 d.1.2.2.1 d.2.1 N d.1.2.2.2.1 (L0.k0 d K) (L0.k1 d K)
def ents84 {α : Type} (N : Nat) : List (SmE α) := [⟨0, 50, 4, [⟨L0.sh, L0.F N⟩]⟩]
def C (N : Nat) : Ctx := ⟨tys, [(101, net_checkArcs.fent)], [], N⟩
def L0.B {α : Type} (N : Nat) : Env → Cont α → Option α := evC tys 35 0 (evCall (C N) 50) (evCallQ (C N)) N an84 (smL (ents84 N) 0 50) (loopOf 4 Try.f84)
theorem L0.r {α : Type} (N : Nat) (φ : Env → Option α) (K : Cont α) (d : L0.sh.T) : L0.B N (L0.sh.enc d) (contL φ K (Env.norm 0 [1, 22, 23, 24]) (Env.norm 0 [4])) = L0.st N d.1.1 d.1.2.2.1 d.2.1 (fun e0 => φ (L0.sh.enc (L0.up d e0))) d.1.2.2.2.1 (L0.k0 d K) (L0.k1 d K) := by kernel_rfl
theorem L0.e {α : Type} (N : Nat) : ∀ (n : Nat) (d : L0.sh.T) (K : Cont α), evL (L0.B N) (Env.norm 0 [1, 22, 23, 24]) (Env.norm 0 [4]) n (L0.sh.enc d) K = L0.f N d.1.1 d.1.2.2.1 d.2.1 n d.1.2.2.2.1 (L0.k0 d K) (L0.k1 d K)
 | 0, d, K => rfl
 | n + 1, d, K => evL_contL.trans ((L0.r N _ K d).trans (congrArg (fun φ => L0.st N d.1.1 d.1.2.2.1 d.2.1 φ d.1.2.2.2.1 (L0.k0 d K) (L0.k1 d K)) (funext fun e0 => L0.e N n (L0.up d e0) K)))
theorem ents84_ok {α : Type} (N : Nat) : AllP (EntOk (C N) Try.f84 an84 (ents84 (α := α) N)) (ents84 N) := ⟨entOk_of (b0 := loopOf 4 Try.f84) (li0 := [1, 22, 23, 24]) (lx0 := [4]) (by kernel_rfl) (by kernel_rfl) ⟨fun d K => L0.e N N d K, trivial⟩, trivial⟩
def g {α : Type} (N : Nat) (a0 : BA × List (Int × Int) × List (Int × Int) × List (Int × Int) × Int) (a1 : Int) (kr : (Int → Option α)) : Option α :=
 cond (decide (a0.snd.snd.snd.snd < 0)) (kr (1)) (cond (decide (9 < a0.snd.snd.snd.snd)) (kr (1)) (L0.f N (a1) ((↑[a0.snd.fst, a0.snd.snd.fst, a0.snd.snd.snd.fst].length : Int)) ([a0.snd.fst, a0.snd.snd.fst, a0.snd.snd.snd.fst]) N (0) (fun x4 => kr (x4)) (kr (0))))
theorem eq (N : Nat) (a0 : BA × List (Int × Int) × List (Int × Int) × List (Int × Int) × Int) (a1 : Int) : evF (C N) 50 Try.f84 an84 (smL (ents84 N) 0 50) [((.int .i64 : K), false)] [⟨.st (.pr (.str) (.pr (.sl (.st (.pr (.int .i64) (.int .i64)))) (.pr (.sl (.st (.pr (.int .i64) (.int .i64)))) (.pr (.sl (.st (.pr (.int .i64) (.int .i64)))) (.int .i64))))), a0⟩, ⟨.int .i64, a1⟩] = g N a0 a1 (fun r0 => some [.dat (K.int IntKind.i64) r0]) := by kernel_rfl
theorem ctxOk (N : Nat) : CtxOk P (C N) := ctxOk_of tysOk mixedOk ⟨net_checkArcs.ok, trivial⟩ trivial
theorem calls (N : Nat) (a0 : BA × List (Int × Int) × List (Int × Int) × List (Int × Int) × Int) (a1 : Int) {rs : List Rs} (h : g N a0 a1 (fun r0 => some [.dat (K.int IntKind.i64) r0]) = some rs) : CallsTo P 84 [⟨.st (.pr (.str) (.pr (.sl (.st (.pr (.int .i64) (.int .i64)))) (.pr (.sl (.st (.pr (.int .i64) (.int .i64)))) (.pr (.sl (.st (.pr (.int .i64) (.int .i64)))) (.int .i64))))), a0⟩, ⟨.int .i64, a1⟩] rs := evF_calls' (ctxOk N) (by rfl) (ents84_ok N) ((eq N a0 a1).trans h)
def L0.l {α : Type} (N : Nat) (x0 : Int) (x3 : (List (List (Int × Int)))) (k0 : (Int → Option α)) (k1 : Option α) : List (List (Int × Int)) → Int → Option α
 | [], x2 => k1 
 | x :: l, x2 => (cond ((net_checkArcs.spec x x0) != 0) (k0 ((net_checkArcs.spec x x0))) (L0.l N x0 x3 k0 k1 l (x2 + 1)))
theorem L0.rng {α : Type} {N : Nat} (x0 : Int) (x3 : (List (List (Int × Int)))) (hl : x3.length ≤ maxLen) (k0 : (Int → Option α)) (k1 : Option α) : ∀ (n j : Nat), x3.length < n + j → j ≤ x3.length → L0.f N x0 (x3.length : Int) x3 n (j : Int) k0 k1 = L0.l N x0 x3 k0 k1 (x3.drop j) (j : Int) :=
 rng0 x3 hl (fun n i => L0.f N x0 (x3.length : Int) x3 n i k0 k1) (fun l i => L0.l N x0 x3 k0 k1 l i) (fun n j hj h ih => by simp only [L0.f, L0.st, L0.l, h.a, h.b, h.c, h.d, h.e, Bool.true_and, Bool.and_true, Bool.and_self, cond_true, ih] <;> rfl) (fun n j h => by simp only [L0.f, L0.st, L0.l, h, cond_false])
end net_checkTrans
theorem net_checkTrans.law {α : Type} {N : Nat} (hN : 18446744073709551616 ≤ N) (a0 : BA × (List (Int × Int)) × (List (Int × Int)) × (List (Int × Int)) × Int) (a1 : Int) (w0 : K.wf (.st (.pr (.str) (.pr (.sl (.st (.pr (.int .i64) (.int .i64)))) (.pr (.sl (.st (.pr (.int .i64) (.int .i64)))) (.pr (.sl (.st (.pr (.int .i64) (.int .i64)))) (.int .i64)))))) a0) (w1 : K.wf (.int .i64) a1) (kr : (Int → Option α)) : net_checkTrans.g N a0 a1 kr = kr (net_checkTrans.spec a0 a1) := by
 unfold net_checkTrans.g net_checkTrans.spec transE
 obtain ⟨nm, pre, post, inh, prio⟩ := a0
 simp only
 have h := net_checkTrans.L0.rng (N := N) a1 [pre, post, inh] (by unfold maxLen; simp) (fun x => kr x) (kr 0) N 0 (by simp only [List.length_cons, List.length_nil]; omega) (Nat.zero_le _)
 have h : net_checkTrans.L0.f N a1 (([pre, post, inh].length : Nat) : Int) [pre, post, inh] N 0 (fun x => kr x) (kr 0) = _ := h
 rw [h, List.drop_zero]
 simp only [net_checkTrans.L0.l, net_checkArcs.spec]
 have e : ∀ z : Int, (z != 0) = !(z == 0) := fun z => rfl
 rw [e, e, e]
 cases decide (prio < 0)
 ·
  cases decide (9 < prio)
  ·
   simp only [cond_false, Bool.or_self]
   cases h1 : (arcsE a1 none pre == 0)
   ·
    rfl
   ·
    cases h2 : (arcsE a1 none post == 0)
    ·
     rfl
    ·
     cases h3 : (arcsE a1 none inh == 0)
     ·
      rfl
     ·
      rw [eq_of_beq h3]
      rfl
  ·
   rfl
 ·
  rfl
theorem net_checkTrans.ok : FentOk P 84 net_checkTrans.fent := fentOk_of (by kernel_rfl) fun ds hk => by
 obtain ⟨a0, l0, rfl, h0⟩ := ds_cons hk
 obtain ⟨a1, l1, rfl, h1⟩ := ds_cons h0
 obtain rfl := ds0 h1
 exact ⟨true, [.dat (.int .i64) (net_checkTrans.spec a0 a1)], fun h hw => net_checkTrans.calls 18446744073709551616 a0 a1 (net_checkTrans.law (Nat.le_refl _) a0 a1 hw.1 hw.2.1 _), fun α k => rfl⟩
end Go.VI
namespace Go.VI
open Go Go.Proofs
namespace net_Check
def an55 : Ann := [(8, [1, 2, 4, 35, 36, 37], [1, 2, 4]), (17, [1, 2, 4, 57, 58, 59], [2])]
def an82 : Ann := [(4, [0, 1, 9, 10, 11], [0, 1, 3])]
def L0.sh : Sh := { sl := [(0, SV.a (SA.d K.str)), (1, SV.a (SA.fx (Atom.box 2 0))), (9, SV.a (SA.fx (Atom.sl 3 0 none))), (10, SV.a (SA.d (K.int IntKind.i64))), (11, SV.a (SA.d (K.int IntKind.i64)))], os := [(4, SO.box [SA.d K.str, SA.d (K.int IntKind.i64), SA.d (K.int IntKind.i64)]), (0, SO.box [SA.d K.str, SA.d (K.str.pr ((K.int IntKind.i64).pr (K.int IntKind.i64))).st.sl, SA.d (K.str.pr (((K.int IntKind.i64).pr (K.int IntKind.i64)).st.sl.pr (((K.int IntKind.i64).pr (K.int IntKind.i64)).st.sl.pr (((K.int IntKind.i64).pr (K.int IntKind.i64)).st.sl.pr (K.int IntKind.i64))))).st.sl]), (1, SO.box [SA.d (K.int IntKind.i64), SA.d (K.int IntKind.i64)]), (2, SO.box [SA.fx (Atom.sl 3 0 none)]), (3, SO.row K.str 0)], nx := 5 }
def L0.x0 : Sh := { sl := [(0, SV.a (SA.d K.str)), (1, SV.a (SA.fx (Atom.box 2 0))), (3, SV.a (SA.d (K.int IntKind.i64)))], os := [(4, SO.box [SA.d K.str, SA.d (K.int IntKind.i64), SA.d (K.int IntKind.i64)]), (0, SO.box [SA.d K.str, SA.d (K.str.pr ((K.int IntKind.i64).pr (K.int IntKind.i64))).st.sl, SA.d (K.str.pr (((K.int IntKind.i64).pr (K.int IntKind.i64)).st.sl.pr (((K.int IntKind.i64).pr (K.int IntKind.i64)).st.sl.pr (((K.int IntKind.i64).pr (K.int IntKind.i64)).st.sl.pr (K.int IntKind.i64))))).st.sl]), (1, SO.box [SA.d (K.int IntKind.i64), SA.d (K.int IntKind.i64)]), (2, SO.box [SA.fx (Atom.sl 3 0 none)]), (3, SO.row K.str 0)], nx := 5 }
def L0.x1 : Sh := { sl := [(0, SV.a (SA.d K.str)), (1, SV.a (SA.fx (Atom.box 2 0))), (3, SV.j)], os := [(4, SO.box [SA.d K.str, SA.d (K.int IntKind.i64), SA.d (K.int IntKind.i64)]), (0, SO.box [SA.d K.str, SA.d (K.str.pr ((K.int IntKind.i64).pr (K.int IntKind.i64))).st.sl, SA.d (K.str.pr (((K.int IntKind.i64).pr (K.int IntKind.i64)).st.sl.pr (((K.int IntKind.i64).pr (K.int IntKind.i64)).st.sl.pr (((K.int IntKind.i64).pr (K.int IntKind.i64)).st.sl.pr (K.int IntKind.i64))))).st.sl]), (1, SO.box [SA.d (K.int IntKind.i64), SA.d (K.int IntKind.i64)]), (2, SO.box [SA.fx (Atom.sl 3 0 none)]), (3, SO.row K.str 0)], nx := 5 }
def L0.st {α : Type} (N : Nat) (x9 : BA) (x10 : Int) (x20 : (List BA)) (φ : (Int → Option α)) (x11 : Int) (k0 : (Int → Option α)) (k1 : Option α) : Option α :=
 cond (decide (x11 < x10)) (cond (decide (0 ≤ x11) && decide (x11 < (↑x20.length : Int))) (cond (sEq (x20.getD (0 + x11.toNat) eBA) x9) (k0 (6)) (φ (IntKind.i64.wrap (x11 + 1)))) (none)) (k1 )
def L0.f {α : Type} (N : Nat) (c0 : BA) (c1 : Int) (c10 : (List BA)) : Nat → Int → (Int → Option α) → Option α → Option α
 | 0, _, _, _ => none
 | n + 1, d0, k0, k1 => L0.st N c0 c1 c10 (fun e0 => L0.f N c0 c1 c10 n e0 k0 k1) d0 k0 k1
def L0.up (d : L0.sh.T) (e0 : Int) : L0.sh.T := ((d.1.1, ((), ((), (d.1.2.2.2.1, (e0, ()))))), ((d.2.1.1, (d.2.1.2.1, (d.2.1.2.2.1, ()))), ((d.2.2.1.1, (d.2.2.1.2.1, (d.2.2.1.2.2.1, ()))), ((d.2.2.2.1.1, (d.2.2.2.1.2.1, ())), (((), ()), (d.2.2.2.2.2.1, ()))))))
def L0.k0 {α : Type} (d : L0.sh.T) (K : Cont α) : (Int → Option α) := fun y0 => K (Exit.ret) (L0.x0.enc ((d.1.1, ((), (y0, ()))), ((d.2.1.1, (d.2.1.2.1, (d.2.1.2.2.1, ()))), ((d.2.2.1.1, (d.2.2.1.2.1, (d.2.2.1.2.2.1, ()))), ((d.2.2.2.1.1, (d.2.2.2.1.2.1, ())), (((), ()), (d.2.2.2.2.2.1, ())))))))
def L0.k1 {α : Type} (d : L0.sh.T) (K : Cont α) : Option α := K (Exit.exit 0) (L0.x1.enc ((d.1.1, ((), ((), ()))), ((d.2.1.1, (d.2.1.2.1, (d.2.1.2.2.1, ()))), ((d.2.2.1.1, (d.2.2.1.2.1, (d.2.2.1.2.2.1, ()))), ((d.2.2.2.1.1, (d.2.2.2.1.2.1, ())), (((), ()), (d.2.2.2.2.2.1, ())))))))
def L0.F {α : Type} (N : Nat) (d : L0.sh.T) (K : Cont α) : Option α := L0.f N d.1.1 d.1.2.2.2.1 d.2.2.2.2.2.1 N d.1.2.2.2.2.1 (L0.k0 d K) (L0.k1 d K)
def L1.sh : Sh := { sl := [(1, SV.a (SA.fx (Atom.box 0 0))), (2, SV.a (SA.fx (Atom.box 1 0))), (4, SV.a (SA.fx (Atom.fn 82 [2]))), (35, SV.a (SA.d (K.str.pr ((K.int IntKind.i64).pr (K.int IntKind.i64))).st.sl)), (36, SV.a (SA.d (K.int IntKind.i64))), (37, SV.a (SA.d (K.int IntKind.i64)))], os := [(0, SO.box [SA.d K.str, SA.d (K.str.pr ((K.int IntKind.i64).pr (K.int IntKind.i64))).st.sl, SA.d (K.str.pr (((K.int IntKind.i64).pr (K.int IntKind.i64)).st.sl.pr (((K.int IntKind.i64).pr (K.int IntKind.i64)).st.sl.pr (((K.int IntKind.i64).pr (K.int IntKind.i64)).st.sl.pr (K.int IntKind.i64))))).st.sl]), (1, SO.box [SA.d (K.int IntKind.i64), SA.d (K.int IntKind.i64)]), (2, SO.box [SA.fx (Atom.sl 3 0 none)]), (3, SO.row K.str 0)], nx := 4 }
def L1.x0 : Sh := { sl := [(1, SV.a (SA.fx (Atom.box 0 0))), (2, SV.a (SA.fx (Atom.box 1 0))), (4, SV.a (SA.fx (Atom.fn 82 [2])))], os := [(0, SO.box [SA.d K.str, SA.d (K.str.pr ((K.int IntKind.i64).pr (K.int IntKind.i64))).st.sl, SA.d (K.str.pr (((K.int IntKind.i64).pr (K.int IntKind.i64)).st.sl.pr (((K.int IntKind.i64).pr (K.int IntKind.i64)).st.sl.pr (((K.int IntKind.i64).pr (K.int IntKind.i64)).st.sl.pr (K.int IntKind.i64))))).st.sl]), (1, SO.box [SA.d (K.int IntKind.i64), SA.d (K.int IntKind.i64)]), (2, SO.box [SA.fx (Atom.sl 3 0 none)]), (3, SO.row K.str 0)], nx := 4 }
def L1.x1 : Sh := { sl := [(1, SV.a (SA.fx (Atom.box 0 0))), (2, SV.a (SA.fx (Atom.box 1 0))), (4, SV.a (SA.fx (Atom.fn 82 [2])))], os := [(0, SO.box [SA.d K.str, SA.d (K.str.pr ((K.int IntKind.i64).pr (K.int IntKind.i64))).st.sl, SA.d (K.str.pr (((K.int IntKind.i64).pr (K.int IntKind.i64)).st.sl.pr (((K.int IntKind.i64).pr (K.int IntKind.i64)).st.sl.pr (((K.int IntKind.i64).pr (K.int IntKind.i64)).st.sl.pr (K.int IntKind.i64))))).st.sl]), (1, SO.box [SA.d (K.int IntKind.i64), SA.d (K.int IntKind.i64)]), (2, SO.box [SA.fx (Atom.sl 3 0 none)]), (3, SO.row K.str 0)], nx := 4 }
def L1.st {α : Type} (N : Nat) (x0 : (List (BA × Int × Int))) (x1 : Int) (φ : (Int → (List BA) → Option α)) (x2 : Int) (x8 : (List BA)) (k0 : (Int → Int → (List BA) → Option α)) (k1 : ((List BA) → Option α)) : Option α :=
 cond (decide (x2 < x1)) (cond (decide (0 ≤ x2) && decide (x2 < (↑x0.length : Int))) (cond (!(net_Name.spec (x0.getD x2.toNat (eBA, 0, 0)).fst)) (k0 (5) (x2) (x8)) (L0.f N ((x0.getD x2.toNat (eBA, 0, 0)).fst) ((↑x8.length : Int)) (x8) N (0) (fun x21 => cond (x21 == 0) (cond ((net_checkPlace.spec (x0.getD x2.toNat (eBA, 0, 0))) != 0) (k0 ((net_checkPlace.spec (x0.getD x2.toNat (eBA, 0, 0)))) (x2) (x8)) (φ (IntKind.i64.wrap (x2 + 1)) (x8))) (cond (x21 != 0) (k0 (x21) (x2) (x8)) (φ (IntKind.i64.wrap (x2 + 1)) (x8)))) (cond ((x8.length + 1).ble mxl) (cond ((net_checkPlace.spec (x0.getD x2.toNat (eBA, 0, 0))) != 0) (k0 ((net_checkPlace.spec (x0.getD x2.toNat (eBA, 0, 0)))) (x2) (x8 ++ [(x0.getD x2.toNat (eBA, 0, 0)).fst])) (φ (IntKind.i64.wrap (x2 + 1)) (x8 ++ [(x0.getD x2.toNat (eBA, 0, 0)).fst]))) (none)))) (none)) (k1 (x8))
def L1.f {α : Type} (N : Nat) (c0 : (List (BA × Int × Int))) (c1 : Int) : Nat → Int → (List BA) → (Int → Int → (List BA) → Option α) → ((List BA) → Option α) → Option α
 | 0, _, _, _, _ => none
 | n + 1, d0, d1, k0, k1 => L1.st N c0 c1 (fun e0 e1 => L1.f N c0 c1 n e0 e1 k0 k1) d0 d1 k0 k1
def L1.up (d : L1.sh.T) (e0 : Int) (e1 : (List BA)) : L1.sh.T := (((), ((), ((), (d.1.2.2.2.1, (d.1.2.2.2.2.1, (e0, ())))))), ((d.2.1.1, (d.2.1.2.1, (d.2.1.2.2.1, ()))), ((d.2.2.1.1, (d.2.2.1.2.1, ())), (((), ()), (e1, ())))))
def L1.k0 {α : Type} (d : L1.sh.T) (K : Cont α) : (Int → Int → (List BA) → Option α) := fun y0 y1 y2 => K (Exit.ret) (L1.x0.enc (((), ((), ((), ()))), ((d.2.1.1, (d.2.1.2.1, (d.2.1.2.2.1, ()))), ((y0, (y1, ())), (((), ()), (y2, ()))))))
def L1.k1 {α : Type} (d : L1.sh.T) (K : Cont α) : ((List BA) → Option α) := fun y0 => K (Exit.exit 0) (L1.x1.enc (((), ((), ((), ()))), ((d.2.1.1, (d.2.1.2.1, (d.2.1.2.2.1, ()))), ((d.2.2.1.1, (d.2.2.1.2.1, ())), (((), ()), (y0, ()))))))
def L1.F {α : Type} (N : Nat) (d : L1.sh.T) (K : Cont α) : Option α := L1.f N d.1.2.2.2.1 d.1.2.2.2.2.1 N d.1.2.2.2.2.2.1 d.2.2.2.2.1 (L1.k0 d K) (L1.k1 d K)
def L2.sh : Sh := { sl := [(0, SV.a (SA.d K.str)), (1, SV.a (SA.fx (Atom.box 2 0))), (9, SV.a (SA.fx (Atom.sl 3 0 none))), (10, SV.a (SA.d (K.int IntKind.i64))), (11, SV.a (SA.d (K.int IntKind.i64)))], os := [(4, SO.box [SA.d K.str, SA.d ((K.int IntKind.i64).pr (K.int IntKind.i64)).st.sl, SA.d ((K.int IntKind.i64).pr (K.int IntKind.i64)).st.sl, SA.d ((K.int IntKind.i64).pr (K.int IntKind.i64)).st.sl, SA.d (K.int IntKind.i64)]), (0, SO.box [SA.d K.str, SA.d (K.str.pr ((K.int IntKind.i64).pr (K.int IntKind.i64))).st.sl, SA.d (K.str.pr (((K.int IntKind.i64).pr (K.int IntKind.i64)).st.sl.pr (((K.int IntKind.i64).pr (K.int IntKind.i64)).st.sl.pr (((K.int IntKind.i64).pr (K.int IntKind.i64)).st.sl.pr (K.int IntKind.i64))))).st.sl]), (1, SO.box [SA.d (K.int IntKind.i64), SA.d (K.int IntKind.i64)]), (2, SO.box [SA.fx (Atom.sl 3 0 none)]), (3, SO.row K.str 0)], nx := 5 }
def L2.x0 : Sh := { sl := [(0, SV.a (SA.d K.str)), (1, SV.a (SA.fx (Atom.box 2 0))), (3, SV.a (SA.d (K.int IntKind.i64)))], os := [(4, SO.box [SA.d K.str, SA.d ((K.int IntKind.i64).pr (K.int IntKind.i64)).st.sl, SA.d ((K.int IntKind.i64).pr (K.int IntKind.i64)).st.sl, SA.d ((K.int IntKind.i64).pr (K.int IntKind.i64)).st.sl, SA.d (K.int IntKind.i64)]), (0, SO.box [SA.d K.str, SA.d (K.str.pr ((K.int IntKind.i64).pr (K.int IntKind.i64))).st.sl, SA.d (K.str.pr (((K.int IntKind.i64).pr (K.int IntKind.i64)).st.sl.pr (((K.int IntKind.i64).pr (K.int IntKind.i64)).st.sl.pr (((K.int IntKind.i64).pr (K.int IntKind.i64)).st.sl.pr (K.int IntKind.i64))))).st.sl]), (1, SO.box [SA.d (K.int IntKind.i64), SA.d (K.int IntKind.i64)]), (2, SO.box [SA.fx (Atom.sl 3 0 none)]), (3, SO.row K.str 0)], nx := 5 }
def L2.x1 : Sh := { sl := [(0, SV.a (SA.d K.str)), (1, SV.a (SA.fx (Atom.box 2 0))), (3, SV.j)], os := [(4, SO.box [SA.d K.str, SA.d ((K.int IntKind.i64).pr (K.int IntKind.i64)).st.sl, SA.d ((K.int IntKind.i64).pr (K.int IntKind.i64)).st.sl, SA.d ((K.int IntKind.i64).pr (K.int IntKind.i64)).st.sl, SA.d (K.int IntKind.i64)]), (0, SO.box [SA.d K.str, SA.d (K.str.pr ((K.int IntKind.i64).pr (K.int IntKind.i64))).st.sl, SA.d (K.str.pr (((K.int IntKind.i64).pr (K.int IntKind.i64)).st.sl.pr (((K.int IntKind.i64).pr (K.int IntKind.i64)).st.sl.pr (((K.int IntKind.i64).pr (K.int IntKind.i64)).st.sl.pr (K.int IntKind.i64))))).st.sl]), (1, SO.box [SA.d (K.int IntKind.i64), SA.d (K.int IntKind.i64)]), (2, SO.box [SA.fx (Atom.sl 3 0 none)]), (3, SO.row K.str 0)], nx := 5 }
def L2.st {α : Type} (N : Nat) (x35 : BA) (x36 : Int) (x48 : (List BA)) (φ : (Int → Option α)) (x37 : Int) (k0 : (Int → Option α)) (k1 : Option α) : Option α :=
 cond (decide (x37 < x36)) (cond (decide (0 ≤ x37) && decide (x37 < (↑x48.length : Int))) (cond (sEq (x48.getD (0 + x37.toNat) eBA) x35) (k0 (6)) (φ (IntKind.i64.wrap (x37 + 1)))) (none)) (k1 )
def L2.f {α : Type} (N : Nat) (c0 : BA) (c1 : Int) (c12 : (List BA)) : Nat → Int → (Int → Option α) → Option α → Option α
 | 0, _, _, _ => none
 | n + 1, d0, k0, k1 => L2.st N c0 c1 c12 (fun e0 => L2.f N c0 c1 c12 n e0 k0 k1) d0 k0 k1
def L2.up (d : L2.sh.T) (e0 : Int) : L2.sh.T := ((d.1.1, ((), ((), (d.1.2.2.2.1, (e0, ()))))), ((d.2.1.1, (d.2.1.2.1, (d.2.1.2.2.1, (d.2.1.2.2.2.1, (d.2.1.2.2.2.2.1, ()))))), ((d.2.2.1.1, (d.2.2.1.2.1, (d.2.2.1.2.2.1, ()))), ((d.2.2.2.1.1, (d.2.2.2.1.2.1, ())), (((), ()), (d.2.2.2.2.2.1, ()))))))
def L2.k0 {α : Type} (d : L2.sh.T) (K : Cont α) : (Int → Option α) := fun y0 => K (Exit.ret) (L2.x0.enc ((d.1.1, ((), (y0, ()))), ((d.2.1.1, (d.2.1.2.1, (d.2.1.2.2.1, (d.2.1.2.2.2.1, (d.2.1.2.2.2.2.1, ()))))), ((d.2.2.1.1, (d.2.2.1.2.1, (d.2.2.1.2.2.1, ()))), ((d.2.2.2.1.1, (d.2.2.2.1.2.1, ())), (((), ()), (d.2.2.2.2.2.1, ())))))))
def L2.k1 {α : Type} (d : L2.sh.T) (K : Cont α) : Option α := K (Exit.exit 0) (L2.x1.enc ((d.1.1, ((), ((), ()))), ((d.2.1.1, (d.2.1.2.1, (d.2.1.2.2.1, (d.2.1.2.2.2.1, (d.2.1.2.2.2.2.1, ()))))), ((d.2.2.1.1, (d.2.2.1.2.1, (d.2.2.1.2.2.1, ()))), ((d.2.2.2.1.1, (d.2.2.2.1.2.1, ())), (((), ()), (d.2.2.2.2.2.1, ())))))))
def L2.F {α : Type} (N : Nat) (d : L2.sh.T) (K : Cont α) : Option α := L2.f N d.1.1 d.1.2.2.2.1 d.2.2.2.2.2.1 N d.1.2.2.2.2.1 (L2.k0 d K) (L2.k1 d K)
def L3.sh : Sh := { sl := [(1, SV.a (SA.fx (Atom.box 0 0))), (2, SV.a (SA.fx (Atom.box 1 0))), (4, SV.a (SA.fx (Atom.fn 82 [2]))), (57, SV.a (SA.d (K.str.pr (((K.int IntKind.i64).pr (K.int IntKind.i64)).st.sl.pr (((K.int IntKind.i64).pr (K.int IntKind.i64)).st.sl.pr (((K.int IntKind.i64).pr (K.int IntKind.i64)).st.sl.pr (K.int IntKind.i64))))).st.sl)), (58, SV.a (SA.d (K.int IntKind.i64))), (59, SV.a (SA.d (K.int IntKind.i64)))], os := [(0, SO.box [SA.d K.str, SA.d (K.str.pr ((K.int IntKind.i64).pr (K.int IntKind.i64))).st.sl, SA.d (K.str.pr (((K.int IntKind.i64).pr (K.int IntKind.i64)).st.sl.pr (((K.int IntKind.i64).pr (K.int IntKind.i64)).st.sl.pr (((K.int IntKind.i64).pr (K.int IntKind.i64)).st.sl.pr (K.int IntKind.i64))))).st.sl]), (1, SO.box [SA.d (K.int IntKind.i64), SA.d (K.int IntKind.i64)]), (2, SO.box [SA.fx (Atom.sl 3 0 none)]), (3, SO.row K.str 0)], nx := 4 }
def L3.x0 : Sh := { sl := [(2, SV.a (SA.fx (Atom.box 0 0)))], os := [(0, SO.box [SA.d (K.int IntKind.i64), SA.d (K.int IntKind.i64)])], nx := 1 }
def L3.x1 : Sh := { sl := [(2, SV.a (SA.fx (Atom.box 0 0)))], os := [(0, SO.box [SA.d (K.int IntKind.i64), SA.d (K.int IntKind.i64)])], nx := 1 }
def L3.st {α : Type} (N : Nat) (x26 : (List (BA × List (Int × Int) × List (Int × Int) × List (Int × Int) × Int))) (x27 : Int) (x30 : (List (BA × Int × Int))) (φ : (Int → (List BA) → Option α)) (x28 : Int) (x34 : (List BA)) (k0 : (Int → Int → Option α)) (k1 : Option α) : Option α :=
 cond (decide (x28 < x27)) (cond (decide (0 ≤ x28) && decide (x28 < (↑x26.length : Int))) (cond (!(net_Name.spec (x26.getD x28.toNat (eBA, [], [], [], 0)).fst)) (k0 (5) (IntKind.i64.wrap ((↑x30.length : Int) + x28))) (L2.f N ((x26.getD x28.toNat (eBA, [], [], [], 0)).fst) ((↑x34.length : Int)) (x34) N (0) (fun x49 => cond (x49 == 0) (lt (net_checkTrans.spec (x26.getD x28.toNat (eBA, [], [], [], 0)) (↑x30.length : Int)) fun v5 => cond (v5 != 0) (k0 (v5) (IntKind.i64.wrap ((↑x30.length : Int) + x28))) (φ (IntKind.i64.wrap (x28 + 1)) (x34))) (cond (x49 != 0) (k0 (x49) (IntKind.i64.wrap ((↑x30.length : Int) + x28))) (φ (IntKind.i64.wrap (x28 + 1)) (x34)))) (cond ((x34.length + 1).ble mxl) (lt (net_checkTrans.spec (x26.getD x28.toNat (eBA, [], [], [], 0)) (↑x30.length : Int)) fun v6 => cond (v6 != 0) (k0 (v6) (IntKind.i64.wrap ((↑x30.length : Int) + x28))) (φ (IntKind.i64.wrap (x28 + 1)) (x34 ++ [(x26.getD x28.toNat (eBA, [], [], [], 0)).fst]))) (none)))) (none)) (k1 )
def L3.f {α : Type} (N : Nat) (c0 : (List (BA × List (Int × Int) × List (Int × Int) × List (Int × Int) × Int))) (c1 : Int) (c3 : (List (BA × Int × Int))) : Nat → Int → (List BA) → (Int → Int → Option α) → Option α → Option α
 | 0, _, _, _, _ => none
 | n + 1, d0, d1, k0, k1 => L3.st N c0 c1 c3 (fun e0 e1 => L3.f N c0 c1 c3 n e0 e1 k0 k1) d0 d1 k0 k1
def L3.up (d : L3.sh.T) (e0 : Int) (e1 : (List BA)) : L3.sh.T := (((), ((), ((), (d.1.2.2.2.1, (d.1.2.2.2.2.1, (e0, ())))))), ((d.2.1.1, (d.2.1.2.1, (d.2.1.2.2.1, ()))), ((d.2.2.1.1, (d.2.2.1.2.1, ())), (((), ()), (e1, ())))))
def L3.k0 {α : Type} (d : L3.sh.T) (K : Cont α) : (Int → Int → Option α) := fun y0 y1 => K (Exit.ret) (L3.x0.enc (((), ()), ((y0, (y1, ())), ())))
def L3.k1 {α : Type} (d : L3.sh.T) (K : Cont α) : Option α := K (Exit.exit 2) (L3.x1.enc (((), ()), ((d.2.2.1.1, (d.2.2.1.2.1, ())), ())))
def L3.F {α : Type} (N : Nat) (d : L3.sh.T) (K : Cont α) : Option α := L3.f N d.1.2.2.2.1 d.1.2.2.2.2.1 d.2.1.2.1 N d.1.2.2.2.2.2.1 d.2.2.2.2.1 (L3.k0 d K) (L3.k1 d K)
def ents55 {α : Type} (N : Nat) : List (SmE α) := [⟨0, 50, 8, [⟨L1.sh, L1.F N⟩]⟩, ⟨0, 50, 17, [⟨L3.sh, L3.F N⟩]⟩]
def ents82 {α : Type} (N : Nat) : List (SmE α) := [⟨5, 49, 4, [⟨L0.sh, L0.F N⟩, ⟨L2.sh, L2.F N⟩]⟩]
def C (N : Nat) : Ctx := ⟨tys, [(81, net_Name.fent), (83, net_checkPlace.fent), (84, net_checkTrans.fent)], [(82, ⟨Try.f82, an82, fun α lo d r => smL (ents82 N) lo d r⟩)], N⟩
def L0.B {α : Type} (N : Nat) : Env → Cont α → Option α := evC tys 23 5 (evCall (C N) 49) (evCallQ (C N)) N an82 (smL (ents82 N) 5 49) (loopOf 4 Try.f82)
theorem L0.r {α : Type} (N : Nat) (φ : Env → Option α) (K : Cont α) (d : L0.sh.T) : L0.B N (L0.sh.enc d) (contL φ K (Env.norm 5 [0, 1, 9, 10, 11]) (Env.norm 5 [0, 1, 3])) = L0.st N d.1.1 d.1.2.2.2.1 d.2.2.2.2.2.1 (fun e0 => φ (L0.sh.enc (L0.up d e0))) d.1.2.2.2.2.1 (L0.k0 d K) (L0.k1 d K) := by kernel_rfl
theorem L0.e {α : Type} (N : Nat) : ∀ (n : Nat) (d : L0.sh.T) (K : Cont α), evL (L0.B N) (Env.norm 5 [0, 1, 9, 10, 11]) (Env.norm 5 [0, 1, 3]) n (L0.sh.enc d) K = L0.f N d.1.1 d.1.2.2.2.1 d.2.2.2.2.2.1 n d.1.2.2.2.2.1 (L0.k0 d K) (L0.k1 d K)
 | 0, d, K => rfl
 | n + 1, d, K => evL_contL.trans ((L0.r N _ K d).trans (congrArg (fun φ => L0.st N d.1.1 d.1.2.2.2.1 d.2.2.2.2.2.1 φ d.1.2.2.2.2.1 (L0.k0 d K) (L0.k1 d K)) (funext fun e0 => L0.e N n (L0.up d e0) K)))
def L1.B {α : Type} (N : Nat) : Env → Cont α → Option α := evC tys 86 0 (evCall (C N) 50) (evCallQ (C N)) N an55 (smL (ents55 N) 0 50) (loopOf 8 Try.f55)
theorem L1.r {α : Type} (N : Nat) (φ : Env → Option α) (K : Cont α) (d : L1.sh.T) : L1.B N (L1.sh.enc d) (contL φ K (Env.norm 0 [1, 2, 4, 35, 36, 37]) (Env.norm 0 [1, 2, 4])) = L1.st N d.1.2.2.2.1 d.1.2.2.2.2.1 (fun e0 e1 => φ (L1.sh.enc (L1.up d e0 e1))) d.1.2.2.2.2.2.1 d.2.2.2.2.1 (L1.k0 d K) (L1.k1 d K) := by kernel_rfl
theorem L1.e {α : Type} (N : Nat) : ∀ (n : Nat) (d : L1.sh.T) (K : Cont α), evL (L1.B N) (Env.norm 0 [1, 2, 4, 35, 36, 37]) (Env.norm 0 [1, 2, 4]) n (L1.sh.enc d) K = L1.f N d.1.2.2.2.1 d.1.2.2.2.2.1 n d.1.2.2.2.2.2.1 d.2.2.2.2.1 (L1.k0 d K) (L1.k1 d K)
 | 0, d, K => rfl
 | n + 1, d, K => evL_contL.trans ((L1.r N _ K d).trans (congrArg (fun φ => L1.st N d.1.2.2.2.1 d.1.2.2.2.2.1 φ d.1.2.2.2.2.2.1 d.2.2.2.2.1 (L1.k0 d K) (L1.k1 d K)) (funext fun e0 => funext fun e1 => L1.e N n (L1.up d e0 e1) K)))
def L2.B {α : Type} (N : Nat) : Env → Cont α → Option α := evC tys 23 5 (evCall (C N) 49) (evCallQ (C N)) N an82 (smL (ents82 N) 5 49) (loopOf 4 Try.f82)
theorem L2.r {α : Type} (N : Nat) (φ : Env → Option α) (K : Cont α) (d : L2.sh.T) : L2.B N (L2.sh.enc d) (contL φ K (Env.norm 5 [0, 1, 9, 10, 11]) (Env.norm 5 [0, 1, 3])) = L2.st N d.1.1 d.1.2.2.2.1 d.2.2.2.2.2.1 (fun e0 => φ (L2.sh.enc (L2.up d e0))) d.1.2.2.2.2.1 (L2.k0 d K) (L2.k1 d K) := by kernel_rfl
theorem L2.e {α : Type} (N : Nat) : ∀ (n : Nat) (d : L2.sh.T) (K : Cont α), evL (L2.B N) (Env.norm 5 [0, 1, 9, 10, 11]) (Env.norm 5 [0, 1, 3]) n (L2.sh.enc d) K = L2.f N d.1.1 d.1.2.2.2.1 d.2.2.2.2.2.1 n d.1.2.2.2.2.1 (L2.k0 d K) (L2.k1 d K)
 | 0, d, K => rfl
 | n + 1, d, K => evL_contL.trans ((L2.r N _ K d).trans (congrArg (fun φ => L2.st N d.1.1 d.1.2.2.2.1 d.2.2.2.2.2.1 φ d.1.2.2.2.2.1 (L2.k0 d K) (L2.k1 d K)) (funext fun e0 => L2.e N n (L2.up d e0) K)))
def L3.B {α : Type} (N : Nat) : Env → Cont α → Option α := evC tys 86 0 (evCall (C N) 50) (evCallQ (C N)) N an55 (smL (ents55 N) 0 50) (loopOf 17 Try.f55)
theorem L3.r {α : Type} (N : Nat) (φ : Env → Option α) (K : Cont α) (d : L3.sh.T) : L3.B N (L3.sh.enc d) (contL φ K (Env.norm 0 [1, 2, 4, 57, 58, 59]) (Env.norm 0 [2])) = L3.st N d.1.2.2.2.1 d.1.2.2.2.2.1 d.2.1.2.1 (fun e0 e1 => φ (L3.sh.enc (L3.up d e0 e1))) d.1.2.2.2.2.2.1 d.2.2.2.2.1 (L3.k0 d K) (L3.k1 d K) := by kernel_rfl
theorem L3.e {α : Type} (N : Nat) : ∀ (n : Nat) (d : L3.sh.T) (K : Cont α), evL (L3.B N) (Env.norm 0 [1, 2, 4, 57, 58, 59]) (Env.norm 0 [2]) n (L3.sh.enc d) K = L3.f N d.1.2.2.2.1 d.1.2.2.2.2.1 d.2.1.2.1 n d.1.2.2.2.2.2.1 d.2.2.2.2.1 (L3.k0 d K) (L3.k1 d K)
 | 0, d, K => rfl
 | n + 1, d, K => evL_contL.trans ((L3.r N _ K d).trans (congrArg (fun φ => L3.st N d.1.2.2.2.1 d.1.2.2.2.2.1 d.2.1.2.1 φ d.1.2.2.2.2.2.1 d.2.2.2.2.1 (L3.k0 d K) (L3.k1 d K)) (funext fun e0 => funext fun e1 => L3.e N n (L3.up d e0 e1) K)))
theorem ents55_ok {α : Type} (N : Nat) : AllP (EntOk (C N) Try.f55 an55 (ents55 (α := α) N)) (ents55 N) := ⟨entOk_of (b0 := loopOf 8 Try.f55) (li0 := [1, 2, 4, 35, 36, 37]) (lx0 := [1, 2, 4]) (by kernel_rfl) (by kernel_rfl) ⟨fun d K => L1.e N N d K, trivial⟩, entOk_of (b0 := loopOf 17 Try.f55) (li0 := [1, 2, 4, 57, 58, 59]) (lx0 := [2]) (by kernel_rfl) (by kernel_rfl) ⟨fun d K => L3.e N N d K, trivial⟩, trivial⟩
theorem ents82_ok {α : Type} (N : Nat) : AllP (EntOk (C N) Try.f82 an82 (ents82 (α := α) N)) (ents82 N) := ⟨entOk_of (b0 := loopOf 4 Try.f82) (li0 := [0, 1, 9, 10, 11]) (lx0 := [0, 1, 3]) (by kernel_rfl) (by kernel_rfl) ⟨fun d K => L0.e N N d K, fun d K => L2.e N N d K, trivial⟩, trivial⟩
def g {α : Type} (N : Nat) (a0 : BA × List (BA × Int × Int) × List (BA × List (Int × Int) × List (Int × Int) × List (Int × Int) × Int)) (kr : ((Int × Int) → Option α)) : Option α :=
 cond (!(net_Name.spec a0.fst)) (kr ((5, 0))) (cond (decide ((↑(List.length a0.snd.fst) : Int) < 1)) (kr ((2, 0))) (cond (decide (24 < (↑(List.length a0.snd.fst) : Int))) (kr ((2, 0))) (cond (decide (24 < (↑(List.length a0.snd.snd) : Int))) (kr ((2, 0))) (L1.f N (a0.snd.fst) ((↑(List.length a0.snd.fst) : Int)) N (0) ([]) (fun x22 x23 x24 => kr ((x22, x23))) (fun x25 => L3.f N (a0.snd.snd) ((↑(List.length a0.snd.snd) : Int)) (a0.snd.fst) N (0) (x25) (fun x50 x51 => kr ((x50, x51))) (kr (((0 : Int), (0 : Int)))))))))
theorem eq (N : Nat) (a0 : BA × List (BA × Int × Int) × List (BA × List (Int × Int) × List (Int × Int) × List (Int × Int) × Int)) : evF (C N) 50 Try.f55 an55 (smL (ents55 N) 0 50) [((.st (.pr (.int .i64) (.int .i64)) : K), false)] [⟨.st (.pr (.str) (.pr (.sl (.st (.pr (.str) (.pr (.int .i64) (.int .i64))))) (.sl (.st (.pr (.str) (.pr (.sl (.st (.pr (.int .i64) (.int .i64)))) (.pr (.sl (.st (.pr (.int .i64) (.int .i64)))) (.pr (.sl (.st (.pr (.int .i64) (.int .i64)))) (.int .i64))))))))), a0⟩] = g N a0 (fun r0 => some [.dat (((K.int IntKind.i64).pr (K.int IntKind.i64)).st) r0]) := by kernel_rfl
theorem ctxOk (N : Nat) : CtxOk P (C N) := ctxOk_of tysOk mixedOk ⟨net_Name.ok, net_checkPlace.ok, net_checkTrans.ok, trivial⟩ ⟨⟨⟨by rfl, by kernel_rfl⟩, fun α lo d c hc => smL_ok (ents82_ok N) lo d hc⟩, trivial⟩
theorem calls (N : Nat) (a0 : BA × List (BA × Int × Int) × List (BA × List (Int × Int) × List (Int × Int) × List (Int × Int) × Int)) {rs : List Rs} (h : g N a0 (fun r0 => some [.dat (((K.int IntKind.i64).pr (K.int IntKind.i64)).st) r0]) = some rs) : CallsTo P 55 [⟨.st (.pr (.str) (.pr (.sl (.st (.pr (.str) (.pr (.int .i64) (.int .i64))))) (.sl (.st (.pr (.str) (.pr (.sl (.st (.pr (.int .i64) (.int .i64)))) (.pr (.sl (.st (.pr (.int .i64) (.int .i64)))) (.pr (.sl (.st (.pr (.int .i64) (.int .i64)))) (.int .i64))))))))), a0⟩] rs := evF_calls' (ctxOk N) (by rfl) (ents55_ok N) ((eq N a0).trans h)
def L0.l {α : Type} (N : Nat) (x9 : BA) (x20 : (List BA)) (k0 : (Int → Option α)) (k1 : Option α) : List BA → Int → Option α
 | [], x11 => k1 
 | x :: l, x11 => (cond (sEq x x9) (k0 (6)) (L0.l N x9 x20 k0 k1 l (x11 + 1)))
theorem L0.rng {α : Type} {N : Nat} (x9 : BA) (x20 : (List BA)) (hl : x20.length ≤ maxLen) (k0 : (Int → Option α)) (k1 : Option α) : ∀ (n j : Nat), x20.length < n + j → j ≤ x20.length → L0.f N x9 (x20.length : Int) x20 n (j : Int) k0 k1 = L0.l N x9 x20 k0 k1 (x20.drop j) (j : Int) :=
 rng0 x20 hl (fun n i => L0.f N x9 (x20.length : Int) x20 n i k0 k1) (fun l i => L0.l N x9 x20 k0 k1 l i) (fun n j hj h ih => by simp only [L0.f, L0.st, L0.l, h.a, h.b, h.c, h.d, h.e, Bool.true_and, Bool.and_true, Bool.and_self, cond_true, ih] <;> rfl) (fun n j h => by simp only [L0.f, L0.st, L0.l, h, cond_false])
def L1.l {α : Type} (N : Nat) (x0 : (List (BA × Int × Int))) (k0 : (Int → Int → (List BA) → Option α)) (k1 : ((List BA) → Option α)) : List (BA × Int × Int) → Int → (List BA) → Option α
 | [], x2, x8 => k1 (x8)
 | x :: l, x2, x8 => (cond (!(net_Name.spec x.fst)) (k0 (5) (x2) (x8)) (L0.f N (x.fst) ((↑x8.length : Int)) (x8) N (0) (fun x21 => cond (x21 == 0) (cond ((net_checkPlace.spec x) != 0) (k0 ((net_checkPlace.spec x)) (x2) (x8)) (L1.l N x0 k0 k1 l (x2 + 1) (x8))) (cond (x21 != 0) (k0 (x21) (x2) (x8)) (L1.l N x0 k0 k1 l (x2 + 1) (x8)))) (cond ((x8.length + 1).ble mxl) (cond ((net_checkPlace.spec x) != 0) (k0 ((net_checkPlace.spec x)) (x2) (x8 ++ [x.fst])) (L1.l N x0 k0 k1 l (x2 + 1) (x8 ++ [x.fst]))) (none))))
theorem L1.rng {α : Type} {N : Nat} (x0 : (List (BA × Int × Int))) (hl : x0.length ≤ maxLen) (k0 : (Int → Int → (List BA) → Option α)) (k1 : ((List BA) → Option α)) : ∀ (n j : Nat) (x8 : (List BA)), x0.length < n + j → j ≤ x0.length → L1.f N x0 (x0.length : Int) n (j : Int) x8 k0 k1 = L1.l N x0 k0 k1 (x0.drop j) (j : Int) x8 :=
 rng1 x0 hl (fun n i x8 => L1.f N x0 (x0.length : Int) n i x8 k0 k1) (fun l i x8 => L1.l N x0 k0 k1 l i x8) (fun n j hj h ih x8 => by simp only [L1.f, L1.st, L1.l, h.a, h.b, h.c, h.d, h.e, Bool.true_and, Bool.and_true, Bool.and_self, cond_true, ih] <;> rfl) (fun n j h x8 => by simp only [L1.f, L1.st, L1.l, h, cond_false])
def L2.l {α : Type} (N : Nat) (x35 : BA) (x48 : (List BA)) (k0 : (Int → Option α)) (k1 : Option α) : List BA → Int → Option α
 | [], x37 => k1 
 | x :: l, x37 => (cond (sEq x x35) (k0 (6)) (L2.l N x35 x48 k0 k1 l (x37 + 1)))
theorem L2.rng {α : Type} {N : Nat} (x35 : BA) (x48 : (List BA)) (hl : x48.length ≤ maxLen) (k0 : (Int → Option α)) (k1 : Option α) : ∀ (n j : Nat), x48.length < n + j → j ≤ x48.length → L2.f N x35 (x48.length : Int) x48 n (j : Int) k0 k1 = L2.l N x35 x48 k0 k1 (x48.drop j) (j : Int) :=
 rng0 x48 hl (fun n i => L2.f N x35 (x48.length : Int) x48 n i k0 k1) (fun l i => L2.l N x35 x48 k0 k1 l i) (fun n j hj h ih => by simp only [L2.f, L2.st, L2.l, h.a, h.b, h.c, h.d, h.e, Bool.true_and, Bool.and_true, Bool.and_self, cond_true, ih] <;> rfl) (fun n j h => by simp only [L2.f, L2.st, L2.l, h, cond_false])
def L3.l {α : Type} (N : Nat) (x26 : (List (BA × List (Int × Int) × List (Int × Int) × List (Int × Int) × Int))) (x30 : (List (BA × Int × Int))) (k0 : (Int → Int → Option α)) (k1 : Option α) : List (BA × List (Int × Int) × List (Int × Int) × List (Int × Int) × Int) → Int → (List BA) → Option α
 | [], x28, x34 => k1 
 | x :: l, x28, x34 => (cond (!(net_Name.spec x.fst)) (k0 (5) (IntKind.i64.wrap ((↑x30.length : Int) + x28))) (L2.f N (x.fst) ((↑x34.length : Int)) (x34) N (0) (fun x49 => cond (x49 == 0) (lt (net_checkTrans.spec x (↑x30.length : Int)) fun v5 => cond (v5 != 0) (k0 (v5) (IntKind.i64.wrap ((↑x30.length : Int) + x28))) (L3.l N x26 x30 k0 k1 l (x28 + 1) (x34))) (cond (x49 != 0) (k0 (x49) (IntKind.i64.wrap ((↑x30.length : Int) + x28))) (L3.l N x26 x30 k0 k1 l (x28 + 1) (x34)))) (cond ((x34.length + 1).ble mxl) (lt (net_checkTrans.spec x (↑x30.length : Int)) fun v6 => cond (v6 != 0) (k0 (v6) (IntKind.i64.wrap ((↑x30.length : Int) + x28))) (L3.l N x26 x30 k0 k1 l (x28 + 1) (x34 ++ [x.fst]))) (none))))
theorem L3.rng {α : Type} {N : Nat} (x26 : (List (BA × List (Int × Int) × List (Int × Int) × List (Int × Int) × Int))) (x30 : (List (BA × Int × Int))) (hl : x26.length ≤ maxLen) (k0 : (Int → Int → Option α)) (k1 : Option α) : ∀ (n j : Nat) (x34 : (List BA)), x26.length < n + j → j ≤ x26.length → L3.f N x26 (x26.length : Int) x30 n (j : Int) x34 k0 k1 = L3.l N x26 x30 k0 k1 (x26.drop j) (j : Int) x34 :=
 rng1 x26 hl (fun n i x34 => L3.f N x26 (x26.length : Int) x30 n i x34 k0 k1) (fun l i x34 => L3.l N x26 x30 k0 k1 l i x34) (fun n j hj h ih x34 => by simp only [L3.f, L3.st, L3.l, h.a, h.b, h.c, h.d, h.e, Bool.true_and, Bool.and_true, Bool.and_self, cond_true, ih] <;> rfl) (fun n j h x34 => by simp only [L3.f, L3.st, L3.l, h, cond_false])
end net_Check
theorem net_Check.L0.law {α : Type} {N : Nat} (hN : 18446744073709551616 ≤ N) (s : BA) (names : List BA) (hl : names.length ≤ 1000) (k0 : Int → Option α) (k1 : Option α) :
  net_Check.L0.f N s (names.length : Int) names N 0 k0 k1 = cond (names.any fun o => sEq o s) (k0 6) k1 := by
 have go : ∀ (l : List BA) (j : Int), net_Check.L0.l N s names k0 k1 l j = cond (l.any fun o => sEq o s) (k0 6) k1 := by
  intro l
  induction l with
  | nil => intro j; rfl
  | cons x l ih =>
   intro j
   rw [net_Check.L0.l, ih, List.any_cons]
   cases sEq x s <;> rfl
 refine (net_Check.L0.rng (N := N) s names (by unfold maxLen; omega) k0 k1 N 0 (by omega) (Nat.zero_le _)).trans ?_
 rw [List.drop_zero]
 exact go names 0
theorem net_Check.L2.law {α : Type} {N : Nat} (hN : 18446744073709551616 ≤ N) (s : BA) (names : List BA) (hl : names.length ≤ 1000) (k0 : Int → Option α) (k1 : Option α) :
  net_Check.L2.f N s (names.length : Int) names N 0 k0 k1 = cond (names.any fun o => sEq o s) (k0 6) k1 := by
 have go : ∀ (l : List BA) (j : Int), net_Check.L2.l N s names k0 k1 l j = cond (l.any fun o => sEq o s) (k0 6) k1 := by
  intro l
  induction l with
  | nil => intro j; rfl
  | cons x l ih =>
   intro j
   rw [net_Check.L2.l, ih, List.any_cons]
   cases sEq x s <;> rfl
 refine (net_Check.L2.rng (N := N) s names (by unfold maxLen; omega) k0 k1 N 0 (by omega) (Nat.zero_le _)).trans ?_
 rw [List.drop_zero]
 exact go names 0
theorem net_Check.L1.law {α : Type} {N : Nat} (hN : 18446744073709551616 ≤ N) (x0) (K : Int × Int → Option α) (k1 : List BA → Option α) : ∀ (l : List (BA × Int × Int)) (i : Int) (names : List BA), names.length + l.length ≤ 1000 →
  net_Check.L1.l N x0 (fun e i _ => K (e, i)) k1 l i names = match placesE names i l with | some r => K r | none => k1 (names ++ l.map (·.1))
 | [], i, names, _ => by simp [net_Check.L1.l, placesE]
 | x :: l, i, names, h => by
  simp only [List.length_cons] at h
  rw [net_Check.L1.l, placesE]
  have en : net_Name.spec x.1 = nameOk x.1 := rfl
  have ep : net_checkPlace.spec x = placeE x := rfl
  rw [en, ep, net_Check.L0.law hN x.1 names (by omega)]
  unfold addE
  cases nameOk x.1
  ·
   rfl
  ·
   cases names.any fun o => sEq o x.1
   ·
    have eb : ((names.length + 1).ble mxl) = true := Nat.ble_eq_true_of_le (by unfold mxl; simp; omega)
    simp only [Bool.not_true, cond_false, cond_true, eb, lt, ep]
    rw [net_Check.L1.law hN x0 K k1 l (i + 1) (names ++ [x.1]) (by simp; omega)]
    have e2 : (placeE x != 0) = !(placeE x == 0) := rfl
    have e3 : ((0 : Int) == 0) = true := rfl
    rw [e2, e3]
    cases placeE x == 0
    ·
     rfl
    ·
     simp only [Bool.not_true, cond_false, cond_true, List.map_cons, List.append_assoc, List.singleton_append]
   ·
    rfl
theorem net_Check.L3.law {α : Type} {N : Nat} (hN : 18446744073709551616 ≤ N) (x26) (ps : List (BA × Int × Int)) (hp : ps.length ≤ 1000) (K : Int × Int → Option α) (k1 : Option α) : ∀ (l : List TransT) (i : Nat) (names : List BA), names.length + l.length ≤ 1000 → i + l.length ≤ 1000 →
  net_Check.L3.l N x26 ps (fun e i => K (e, i)) k1 l (i : Int) names = match transesE (ps.length : Int) names (i : Int) l with | some r => K r | none => k1
 | [], i, names, _, _ => by simp [net_Check.L3.l, transesE]
 | x :: l, i, names, h, h' => by
  simp only [List.length_cons] at h h'
  rw [net_Check.L3.l, transesE]
  have en : net_Name.spec x.1 = nameOk x.1 := rfl
  have ep : net_checkTrans.spec x (ps.length : Int) = transE x (ps.length : Int) := rfl
  have ew : IntKind.i64.wrap ((ps.length : Int) + (i : Int)) = (ps.length : Int) + (i : Int) := wrap_i64 (inI_i64.2 (by omega))
  rw [en, ep, ew, net_Check.L2.law hN x.1 names (by omega)]
  unfold addE
  cases nameOk x.1
  ·
   rfl
  ·
   cases names.any fun o => sEq o x.1
   ·
    have eb : ((names.length + 1).ble mxl) = true := Nat.ble_eq_true_of_le (by unfold mxl; simp; omega)
    simp only [Bool.not_true, cond_false, cond_true, eb, lt, ep]
    rw [← succ_cast, net_Check.L3.law hN x26 ps hp K k1 l (i + 1) (names ++ [x.1]) (by simp; omega) (by omega)]
    have e2 : (transE x (ps.length : Int) != 0) = !(transE x (ps.length : Int) == 0) := rfl
    have e3 : ((0 : Int) == 0) = true := rfl
    rw [e2, e3]
    cases transE x (ps.length : Int) == 0
    ·
     rfl
    ·
     rfl
   ·
    rfl
theorem net_Check.law {α : Type} {N : Nat} (hN : 18446744073709551616 ≤ N) (a0 : BA × (List (BA × Int × Int)) × List (BA × (List (Int × Int)) × (List (Int × Int)) × (List (Int × Int)) × Int)) (w0 : K.wf (.st (.pr (.str) (.pr (.sl (.st (.pr (.str) (.pr (.int .i64) (.int .i64))))) (.sl (.st (.pr (.str) (.pr (.sl (.st (.pr (.int .i64) (.int .i64)))) (.pr (.sl (.st (.pr (.int .i64) (.int .i64)))) (.pr (.sl (.st (.pr (.int .i64) (.int .i64)))) (.int .i64)))))))))) a0) (kr : ((Int × Int) → Option α)) : net_Check.g N a0 kr = kr (net_Check.spec a0) := by
 unfold net_Check.g net_Check.spec checkN
 have en : net_Name.spec a0.1 = nameOk a0.1 := rfl
 rw [en]
 cases nameOk a0.1
 ·
  rfl
 ·
  simp only [Bool.not_true, cond_false, cond_true]
  by_cases h1 : List.length a0.2.1 < 1
  ·
   have e1 : decide (((List.length a0.2.1 : Nat) : Int) < 1) = true := decide_eq_true (by omega)
   rw [e1, decide_eq_true h1]
   rfl
  ·
   have e1 : decide (((List.length a0.2.1 : Nat) : Int) < 1) = false := decide_eq_false (by omega)
   rw [e1, decide_eq_false h1, cond_false, Bool.false_or]
   by_cases h2 : 24 < List.length a0.2.1
   ·
    have e2 : decide (24 < ((List.length a0.2.1 : Nat) : Int)) = true := decide_eq_true (by omega)
    rw [e2, decide_eq_true h2]
    rfl
   ·
    have e2 : decide (24 < ((List.length a0.2.1 : Nat) : Int)) = false := decide_eq_false (by omega)
    rw [e2, decide_eq_false h2, cond_false, Bool.false_or]
    by_cases h3 : 24 < List.length a0.2.2
    ·
     have e3 : decide (24 < ((List.length a0.2.2 : Nat) : Int)) = true := decide_eq_true (by omega)
     rw [e3, decide_eq_true h3]
     rfl
    ·
     have e3 : decide (24 < ((List.length a0.2.2 : Nat) : Int)) = false := decide_eq_false (by omega)
     rw [e3, decide_eq_false h3, cond_false, cond_false]
     refine (net_Check.L1.rng (N := N) a0.2.1 (by unfold maxLen; omega) _ _ N 0 [] (by omega) (Nat.zero_le _)).trans ?_
     rw [List.drop_zero]
     refine (net_Check.L1.law hN a0.2.1 (fun r => kr r) _ a0.2.1 ((0 : Nat) : Int) [] (by simp; omega)).trans ?_
     have e0 : (((0 : Nat) : Int)) = 0 := rfl
     rw [e0]
     cases placesE [] 0 a0.2.1 with
     | some r => rfl
     | none =>
      simp only [List.nil_append]
      refine (net_Check.L3.rng (N := N) a0.2.2 a0.2.1 (by unfold maxLen; omega) _ _ N 0 _ (by omega) (Nat.zero_le _)).trans ?_
      rw [List.drop_zero]
      refine (net_Check.L3.law hN a0.2.2 a0.2.1 (by omega) (fun r => kr r) _ a0.2.2 0 _ (by simp; omega) (by omega)).trans ?_
      cases transesE ((List.length a0.2.1 : Nat) : Int) (a0.2.1.map (·.1)) ((0 : Nat) : Int) a0.2.2 <;> rfl
theorem net_Check.ok : FentOk P 55 net_Check.fent := fentOk_of (by kernel_rfl) fun ds hk => by
 obtain ⟨a0, l0, rfl, h0⟩ := ds_cons hk
 obtain rfl := ds0 h0
 exact ⟨true, [.dat (.st (.pr (.int .i64) (.int .i64))) (net_Check.spec a0)], fun h hw => net_Check.calls 18446744073709551616 a0 (net_Check.law (Nat.le_refl _) a0 hw.1 _), fun α k => rfl⟩
end Go.VI
namespace Go.VI
open Go Go.Proofs
namespace memo_cycPlaces
def an17 : Ann := [(8, [1, 5, 25, 26], [5])]
def an12 : Ann := [(5, [4, 14, 15], [2, 3, 4])]
def an32 : Ann := [(5, [1, 3, 21, 22], [3]), (8, [1, 3, 4, 21, 22, 26, 27, 28], [1, 3, 21, 22])]
def an46 : Ann := [(5, [1, 16, 17, 18], [1, 2]), (11, [28, 29, 30], [2])]
def an47 : Ann := [(5, [0, 3, 16, 17], [3]), (8, [0, 3, 4, 16, 17, 20, 21, 22], [0, 3, 16, 17])]
def an36 : Ann := [(5, [3, 18, 19, 20], [2, 3])]
def an37 : Ann := [(4, [0, 3, 4, 5], [4]), (8, [0, 3, 4, 5, 6, 25, 26], [0, 3, 4, 5, 6])]
def an38 : Ann := []
def an39 : Ann := [(3, [3, 8, 9, 10], [3]), (8, [3, 6, 7, 8, 9, 10], [3, 6, 7, 8, 9, 10])]
def an53 : Ann := []
def an65 : Ann := [(3, [0, 3, 15, 16, 17], [0, 3]), (9, [3, 6, 28, 29, 30], [6]), (12, [3, 6, 7, 8, 28, 29, 30, 35, 36, 37], [3, 6, 8, 28, 29, 30])]
def an60 : Ann := [(2, [0, 1, 3, 11, 12, 13], [6])]
def an61 : Ann := []
def an62 : Ann := []
def an66 : Ann := [(2, [0, 1, 5], [0, 1, 4])]
def an91 : Ann := [(3, [3, 11, 12, 13], [3])]
def an63 : Ann := []
def an106 : Ann := [(3, [3, 6, 7, 8], [3])]
def an64 : Ann := []
def an89 : Ann := []
def an90 : Ann := [(3, [0, 4, 10, 11, 12], [0, 2, 3, 4]), (11, [4, 7, 28, 29, 30], [7])]
def an77 : Ann := [(5, [1, 2, 8, 21, 22, 23], [6, 7, 8])]
def an103 : Ann := []
def an105 : Ann := []
def an78 : Ann := []
def an104 : Ann := []
def an111 : Ann := []
def an112 : Ann := []
def an113 : Ann := [(1, [0, 1], [0])]
def an110 : Ann := []
def C : Ctx := ⟨tysD, [(54, net_weight.fent), (55, net_Check.fent)], [(12, ⟨Try.f12, an12, noSm⟩), (32, ⟨Try.f32, an32, noSm⟩), (46, ⟨Try.f46, an46, noSm⟩), (47, ⟨Try.f47, an47, noSm⟩), (36, ⟨Try.f36, an36, noSm⟩), (37, ⟨Try.f37, an37, noSm⟩), (38, ⟨Try.f38, an38, noSm⟩), (39, ⟨Try.f39, an39, noSm⟩), (53, ⟨Try.f53, an53, noSm⟩), (65, ⟨Try.f65, an65, noSm⟩), (60, ⟨Try.f60, an60, noSm⟩), (61, ⟨Try.f61, an61, noSm⟩), (62, ⟨Try.f62, an62, noSm⟩), (66, ⟨Try.f66, an66, noSm⟩), (91, ⟨Try.f91, an91, noSm⟩), (63, ⟨Try.f63, an63, noSm⟩), (106, ⟨Try.f106, an106, noSm⟩), (64, ⟨Try.f64, an64, noSm⟩), (89, ⟨Try.f89, an89, noSm⟩), (90, ⟨Try.f90, an90, noSm⟩), (77, ⟨Try.f77, an77, noSm⟩), (103, ⟨Try.f103, an103, noSm⟩), (105, ⟨Try.f105, an105, noSm⟩), (78, ⟨Try.f78, an78, noSm⟩), (104, ⟨Try.f104, an104, noSm⟩), (111, ⟨Try.f111, an111, noSm⟩), (112, ⟨Try.f112, an112, noSm⟩), (113, ⟨Try.f113, an113, noSm⟩), (110, ⟨Try.f110, an110, noSm⟩)], 100000⟩
theorem ctxOk : CtxOk P C := ctxOk_of tysDOk mixedOk ⟨net_weight.ok, net_Check.ok, trivial⟩ ⟨inlOk_no (by rfl) (by kernel_rfl), inlOk_no (by rfl) (by kernel_rfl), inlOk_no (by rfl) (by kernel_rfl), inlOk_no (by rfl) (by kernel_rfl), inlOk_no (by rfl) (by kernel_rfl), inlOk_no (by rfl) (by kernel_rfl), inlOk_no (by rfl) (by kernel_rfl), inlOk_no (by rfl) (by kernel_rfl), inlOk_no (by rfl) (by kernel_rfl), inlOk_no (by rfl) (by kernel_rfl), inlOk_no (by rfl) (by kernel_rfl), inlOk_no (by rfl) (by kernel_rfl), inlOk_no (by rfl) (by kernel_rfl), inlOk_no (by rfl) (by kernel_rfl), inlOk_no (by rfl) (by kernel_rfl), inlOk_no (by rfl) (by kernel_rfl), inlOk_no (by rfl) (by kernel_rfl), inlOk_no (by rfl) (by kernel_rfl), inlOk_no (by rfl) (by kernel_rfl), inlOk_no (by rfl) (by kernel_rfl), inlOk_no (by rfl) (by kernel_rfl), inlOk_no (by rfl) (by kernel_rfl), inlOk_no (by rfl) (by kernel_rfl), inlOk_no (by rfl) (by kernel_rfl), inlOk_no (by rfl) (by kernel_rfl), inlOk_no (by rfl) (by kernel_rfl), inlOk_no (by rfl) (by kernel_rfl), inlOk_no (by rfl) (by kernel_rfl), inlOk_no (by rfl) (by kernel_rfl), trivial⟩
theorem run0 : evF C 60 Try.f17 an17 (fun _ => none) [(((.sl (.int .i64)) : K), true), ((.int .i64 : K), false)] [⟨.st (.pr (.str) (.pr (.sl (.st (.pr (.str) (.pr (.int .i64) (.int .i64))))) (.sl (.st (.pr (.str) (.pr (.sl (.st (.pr (.int .i64) (.int .i64)))) (.pr (.sl (.st (.pr (.int .i64) (.int .i64)))) (.pr (.sl (.st (.pr (.int .i64) (.int .i64)))) (.int .i64))))))))), ((⟨#[110]⟩ : BA), [((⟨#[112]⟩ : BA), (1 : Int), (0 : Int)), (⟨#[113]⟩, 0, 0)], [((⟨#[116]⟩ : BA), [((0 : Int), (1 : Int))], [((1 : Int), (1 : Int))], ([] : List (Int × Int)), (0 : Int)), (⟨#[117]⟩, [(1, 1)], [(0, 1)], [], 0)])⟩] = some [.own (.sl (.int .i64)) [[(1 : Int), 1]], .dat (.int .i64) (0 : Int)] := by kernel_rfl
def fent : Fent := memo [.st (.pr (.str) (.pr (.sl (.st (.pr (.str) (.pr (.int .i64) (.int .i64))))) (.sl (.st (.pr (.str) (.pr (.sl (.st (.pr (.int .i64) (.int .i64)))) (.pr (.sl (.st (.pr (.int .i64) (.int .i64)))) (.pr (.sl (.st (.pr (.int .i64) (.int .i64)))) (.int .i64)))))))))] [([⟨.st (.pr (.str) (.pr (.sl (.st (.pr (.str) (.pr (.int .i64) (.int .i64))))) (.sl (.st (.pr (.str) (.pr (.sl (.st (.pr (.int .i64) (.int .i64)))) (.pr (.sl (.st (.pr (.int .i64) (.int .i64)))) (.pr (.sl (.st (.pr (.int .i64) (.int .i64)))) (.int .i64))))))))), ((⟨#[110]⟩ : BA), [((⟨#[112]⟩ : BA), (1 : Int), (0 : Int)), (⟨#[113]⟩, 0, 0)], [((⟨#[116]⟩ : BA), [((0 : Int), (1 : Int))], [((1 : Int), (1 : Int))], ([] : List (Int × Int)), (0 : Int)), (⟨#[117]⟩, [(1, 1)], [(0, 1)], [], 0)])⟩], [.own (.sl (.int .i64)) [[(1 : Int), 1]], .dat (.int .i64) (0 : Int)])]
theorem ok : FentOk P 17 fent := memo_ok (by kernel_rfl) ⟨evF_at ctxOk (by rfl) run0, trivial⟩
end memo_cycPlaces
end Go.VI
namespace Go.VI
open Go Go.Proofs
namespace memo_cycTrans
def an19 : Ann := []
def an12 : Ann := [(5, [4, 14, 15], [2, 3, 4])]
def an32 : Ann := [(5, [1, 3, 21, 22], [3]), (8, [1, 3, 4, 21, 22, 26, 27, 28], [1, 3, 21, 22])]
def an46 : Ann := [(5, [1, 16, 17, 18], [1, 2]), (11, [28, 29, 30], [2])]
def an36 : Ann := [(5, [3, 18, 19, 20], [2, 3])]
def an37 : Ann := [(4, [0, 3, 4, 5], [4]), (8, [0, 3, 4, 5, 6, 25, 26], [0, 3, 4, 5, 6])]
def an38 : Ann := []
def an39 : Ann := [(3, [3, 8, 9, 10], [3]), (8, [3, 6, 7, 8, 9, 10], [3, 6, 7, 8, 9, 10])]
def an53 : Ann := []
def an65 : Ann := [(3, [0, 3, 15, 16, 17], [0, 3]), (9, [3, 6, 28, 29, 30], [6]), (12, [3, 6, 7, 8, 28, 29, 30, 35, 36, 37], [3, 6, 8, 28, 29, 30])]
def an60 : Ann := [(2, [0, 1, 3, 11, 12, 13], [6])]
def an61 : Ann := []
def an62 : Ann := []
def an66 : Ann := [(2, [0, 1, 5], [0, 1, 4])]
def an91 : Ann := [(3, [3, 11, 12, 13], [3])]
def an63 : Ann := []
def an106 : Ann := [(3, [3, 6, 7, 8], [3])]
def an64 : Ann := []
def an89 : Ann := []
def an90 : Ann := [(3, [0, 4, 10, 11, 12], [0, 2, 3, 4]), (11, [4, 7, 28, 29, 30], [7])]
def an77 : Ann := [(5, [1, 2, 8, 21, 22, 23], [6, 7, 8])]
def an103 : Ann := []
def an105 : Ann := []
def an78 : Ann := []
def an104 : Ann := []
def an111 : Ann := []
def an112 : Ann := []
def an113 : Ann := [(1, [0, 1], [0])]
def an110 : Ann := []
def C : Ctx := ⟨tysD, [(54, net_weight.fent), (55, net_Check.fent)], [(12, ⟨Try.f12, an12, noSm⟩), (32, ⟨Try.f32, an32, noSm⟩), (46, ⟨Try.f46, an46, noSm⟩), (36, ⟨Try.f36, an36, noSm⟩), (37, ⟨Try.f37, an37, noSm⟩), (38, ⟨Try.f38, an38, noSm⟩), (39, ⟨Try.f39, an39, noSm⟩), (53, ⟨Try.f53, an53, noSm⟩), (65, ⟨Try.f65, an65, noSm⟩), (60, ⟨Try.f60, an60, noSm⟩), (61, ⟨Try.f61, an61, noSm⟩), (62, ⟨Try.f62, an62, noSm⟩), (66, ⟨Try.f66, an66, noSm⟩), (91, ⟨Try.f91, an91, noSm⟩), (63, ⟨Try.f63, an63, noSm⟩), (106, ⟨Try.f106, an106, noSm⟩), (64, ⟨Try.f64, an64, noSm⟩), (89, ⟨Try.f89, an89, noSm⟩), (90, ⟨Try.f90, an90, noSm⟩), (77, ⟨Try.f77, an77, noSm⟩), (103, ⟨Try.f103, an103, noSm⟩), (105, ⟨Try.f105, an105, noSm⟩), (78, ⟨Try.f78, an78, noSm⟩), (104, ⟨Try.f104, an104, noSm⟩), (111, ⟨Try.f111, an111, noSm⟩), (112, ⟨Try.f112, an112, noSm⟩), (113, ⟨Try.f113, an113, noSm⟩), (110, ⟨Try.f110, an110, noSm⟩)], 100000⟩
theorem ctxOk : CtxOk P C := ctxOk_of tysDOk mixedOk ⟨net_weight.ok, net_Check.ok, trivial⟩ ⟨inlOk_no (by rfl) (by kernel_rfl), inlOk_no (by rfl) (by kernel_rfl), inlOk_no (by rfl) (by kernel_rfl), inlOk_no (by rfl) (by kernel_rfl), inlOk_no (by rfl) (by kernel_rfl), inlOk_no (by rfl) (by kernel_rfl), inlOk_no (by rfl) (by kernel_rfl), inlOk_no (by rfl) (by kernel_rfl), inlOk_no (by rfl) (by kernel_rfl), inlOk_no (by rfl) (by kernel_rfl), inlOk_no (by rfl) (by kernel_rfl), inlOk_no (by rfl) (by kernel_rfl), inlOk_no (by rfl) (by kernel_rfl), inlOk_no (by rfl) (by kernel_rfl), inlOk_no (by rfl) (by kernel_rfl), inlOk_no (by rfl) (by kernel_rfl), inlOk_no (by rfl) (by kernel_rfl), inlOk_no (by rfl) (by kernel_rfl), inlOk_no (by rfl) (by kernel_rfl), inlOk_no (by rfl) (by kernel_rfl), inlOk_no (by rfl) (by kernel_rfl), inlOk_no (by rfl) (by kernel_rfl), inlOk_no (by rfl) (by kernel_rfl), inlOk_no (by rfl) (by kernel_rfl), inlOk_no (by rfl) (by kernel_rfl), inlOk_no (by rfl) (by kernel_rfl), inlOk_no (by rfl) (by kernel_rfl), inlOk_no (by rfl) (by kernel_rfl), trivial⟩
theorem run0 : evF C 60 Try.f19 an19 (fun _ => none) [(((.sl (.int .i64)) : K), true), ((.int .i64 : K), false)] [⟨.st (.pr (.str) (.pr (.sl (.st (.pr (.str) (.pr (.int .i64) (.int .i64))))) (.sl (.st (.pr (.str) (.pr (.sl (.st (.pr (.int .i64) (.int .i64)))) (.pr (.sl (.st (.pr (.int .i64) (.int .i64)))) (.pr (.sl (.st (.pr (.int .i64) (.int .i64)))) (.int .i64))))))))), ((⟨#[110]⟩ : BA), [((⟨#[112]⟩ : BA), (1 : Int), (0 : Int)), (⟨#[113]⟩, 0, 0)], [((⟨#[116]⟩ : BA), [((0 : Int), (1 : Int))], [((1 : Int), (1 : Int))], ([] : List (Int × Int)), (0 : Int)), (⟨#[117]⟩, [(1, 1)], [(0, 1)], [], 0)])⟩] = some [.own (.sl (.int .i64)) [[(1 : Int), 1]], .dat (.int .i64) (0 : Int)] := by kernel_rfl
def fent : Fent := memo [.st (.pr (.str) (.pr (.sl (.st (.pr (.str) (.pr (.int .i64) (.int .i64))))) (.sl (.st (.pr (.str) (.pr (.sl (.st (.pr (.int .i64) (.int .i64)))) (.pr (.sl (.st (.pr (.int .i64) (.int .i64)))) (.pr (.sl (.st (.pr (.int .i64) (.int .i64)))) (.int .i64)))))))))] [([⟨.st (.pr (.str) (.pr (.sl (.st (.pr (.str) (.pr (.int .i64) (.int .i64))))) (.sl (.st (.pr (.str) (.pr (.sl (.st (.pr (.int .i64) (.int .i64)))) (.pr (.sl (.st (.pr (.int .i64) (.int .i64)))) (.pr (.sl (.st (.pr (.int .i64) (.int .i64)))) (.int .i64))))))))), ((⟨#[110]⟩ : BA), [((⟨#[112]⟩ : BA), (1 : Int), (0 : Int)), (⟨#[113]⟩, 0, 0)], [((⟨#[116]⟩ : BA), [((0 : Int), (1 : Int))], [((1 : Int), (1 : Int))], ([] : List (Int × Int)), (0 : Int)), (⟨#[117]⟩, [(1, 1)], [(0, 1)], [], 0)])⟩], [.own (.sl (.int .i64)) [[(1 : Int), 1]], .dat (.int .i64) (0 : Int)])]
theorem ok : FentOk P 19 fent := memo_ok (by kernel_rfl) ⟨evF_at ctxOk (by rfl) run0, trivial⟩
end memo_cycTrans
end Go.VI
namespace Go.VI
open Go Go.Proofs
namespace pl31_lives
def an10 : Ann := []
def an21 : Ann := [(4, [0, 14, 15, 16], [0, 2, 3]), (11, [6, 33, 34, 35], [2, 3, 6])]
def an24 : Ann := [(2, [0, 1, 5], [4]), (5, [0, 1, 5, 13, 14, 15], [0, 1, 5])]
def an34 : Ann := []
def an35 : Ann := []
def an51 : Ann := []
def an77 : Ann := [(5, [1, 2, 8, 21, 22, 23], [6, 7, 8])]
def an78 : Ann := []
def C : Ctx := ⟨tysD, [(12, memo_solve31.fent), (17, memo_cycPlaces.fent), (19, memo_cycTrans.fent)], [(21, ⟨Try.f21, an21, noSm⟩), (24, ⟨Try.f24, an24, noSm⟩), (34, ⟨Try.f34, an34, noSm⟩), (35, ⟨Try.f35, an35, noSm⟩), (51, ⟨Try.f51, an51, noSm⟩), (77, ⟨Try.f77, an77, noSm⟩), (78, ⟨Try.f78, an78, noSm⟩)], 100000⟩
theorem ctxOk : CtxOk P C := ctxOk_of tysDOk mixedOk ⟨memo_solve31.ok, memo_cycPlaces.ok, memo_cycTrans.ok, trivial⟩ ⟨inlOk_no (by rfl) (by kernel_rfl), inlOk_no (by rfl) (by kernel_rfl), inlOk_no (by rfl) (by kernel_rfl), inlOk_no (by rfl) (by kernel_rfl), inlOk_no (by rfl) (by kernel_rfl), inlOk_no (by rfl) (by kernel_rfl), inlOk_no (by rfl) (by kernel_rfl), trivial⟩
theorem runs : evF C 60 Try.f10 an10 (fun _ => none) [(.bool, false)] [] = some [.dat .bool true] := by kernel_rfl
theorem calls : CallsTo P 10 [] [.dat .bool true] := evF_closed ctxOk (by rfl) runs
end pl31_lives
theorem pl31_lives.ok : FentOk P 10 pl31_lives.fent := fentOk_of (by kernel_rfl) fun ds hk => by
 obtain rfl := ds0 hk
 exact ⟨true, [.dat .bool true], fun _ _ => pl31_lives.calls, fun α k => rfl⟩
end Go.VI
namespace Go.VI
open Go Go.Proofs
namespace pf08_Valid
def an11 : Ann := [(4, [0, 3], [2])]
def L0.sh : Sh := { sl := [(0, SV.a (SA.d (K.int IntKind.i64).sl.sl)), (3, SV.a (SA.d (K.int IntKind.i64)))], os := [], nx := 0 }
def L0.x0 : Sh := { sl := [(2, SV.a (SA.d K.bool))], os := [], nx := 0 }
def L0.x1 : Sh := { sl := [(2, SV.j)], os := [], nx := 0 }
def L0.st {α : Type} (N : Nat) (x0 : (List (List Int))) (φ : (Int → Option α)) (x1 : Int) (k0 : (Bool → Option α)) (k1 : Option α) : Option α :=
 cond (decide (x1 < (↑x0.length : Int))) (cond (decide (0 ≤ x1) && decide (x1 < (↑x0.length : Int))) (cond (decide ((↑(List.length (x0.getD x1.toNat [])) : Int) < 1)) (k0 (false)) (cond (decide (0 ≤ x1) && decide (x1 < (↑x0.length : Int))) (cond (decide (64 < (↑(List.length (x0.getD x1.toNat [])) : Int))) (k0 (false)) (cond (decide (0 ≤ x1) && decide (x1 < (↑x0.length : Int))) (cond (decide (0 ≤ 0) && decide (0 < (↑x0.length : Int))) (cond ((↑(List.length (x0.getD x1.toNat [])) : Int) != (↑(List.length (x0.getD (Int.toNat (0 : Int)) [])) : Int)) (k0 (false)) (φ (IntKind.i64.wrap (x1 + 1)))) (none)) (none))) (none))) (none)) (k1 )
def L0.f {α : Type} (N : Nat) (c0 : (List (List Int))) : Nat → Int → (Bool → Option α) → Option α → Option α
 | 0, _, _, _ => none
 | n + 1, d0, k0, k1 => L0.st N c0 (fun e0 => L0.f N c0 n e0 k0 k1) d0 k0 k1
def L0.up (d : L0.sh.T) (e0 : Int) : L0.sh.T := ((d.1.1, (e0, ())), ())
def L0.k0 {α : Type} (d : L0.sh.T) (K : Cont α) : (Bool → Option α) := fun y0 => K (Exit.ret) (L0.x0.enc ((y0, ()), ()))
def L0.k1 {α : Type} (d : L0.sh.T) (K : Cont α) : Option α := K (Exit.exit 0) (L0.x1.enc (((), ()), ()))
def L0.F {α : Type} (N : Nat) (d : L0.sh.T) (K : Cont α) : Option α := L0.f N d.1.1 N d.1.2.1 (L0.k0 d K) (L0.k1 d K)
def ents11 {α : Type} (N : Nat) : List (SmE α) := [⟨0, 50, 4, [⟨L0.sh, L0.F N⟩]⟩]
def C (N : Nat) : Ctx := ⟨tys, [], [], N⟩
def L0.B {α : Type} (N : Nat) : Env → Cont α → Option α := evC tys 44 0 (evCall (C N) 50) (evCallQ (C N)) N an11 (smL (ents11 N) 0 50) (loopOf 4 Try.f11)
theorem L0.r {α : Type} (N : Nat) (φ : Env → Option α) (K : Cont α) (d : L0.sh.T) : L0.B N (L0.sh.enc d) (contL φ K (Env.norm 0 [0, 3]) (Env.norm 0 [2])) = L0.st N d.1.1 (fun e0 => φ (L0.sh.enc (L0.up d e0))) d.1.2.1 (L0.k0 d K) (L0.k1 d K) := by kernel_rfl
theorem L0.e {α : Type} (N : Nat) : ∀ (n : Nat) (d : L0.sh.T) (K : Cont α), evL (L0.B N) (Env.norm 0 [0, 3]) (Env.norm 0 [2]) n (L0.sh.enc d) K = L0.f N d.1.1 n d.1.2.1 (L0.k0 d K) (L0.k1 d K)
 | 0, d, K => rfl
 | n + 1, d, K => evL_contL.trans ((L0.r N _ K d).trans (congrArg (fun φ => L0.st N d.1.1 φ d.1.2.1 (L0.k0 d K) (L0.k1 d K)) (funext fun e0 => L0.e N n (L0.up d e0) K)))
theorem ents11_ok {α : Type} (N : Nat) : AllP (EntOk (C N) Try.f11 an11 (ents11 (α := α) N)) (ents11 N) := ⟨entOk_of (b0 := loopOf 4 Try.f11) (li0 := [0, 3]) (lx0 := [2]) (by kernel_rfl) (by kernel_rfl) ⟨fun d K => L0.e N N d K, trivial⟩, trivial⟩
def g {α : Type} (N : Nat) (a0 : List (List Int)) (kr : (Bool → Option α)) : Option α :=
 cond (decide ((↑a0.length : Int) < 1)) (kr (false)) (cond (decide (64 < (↑a0.length : Int))) (kr (false)) (L0.f N (a0) N (0) (fun x2 => kr (x2)) (kr (true))))
theorem eq (N : Nat) (a0 : List (List Int)) : evF (C N) 50 Try.f11 an11 (smL (ents11 N) 0 50) [((.bool : K), false)] [⟨.sl (.sl (.int .i64)), a0⟩] = g N a0 (fun r0 => some [.dat (K.bool) r0]) := by kernel_rfl
theorem ctxOk (N : Nat) : CtxOk P (C N) := ctxOk_of tysOk mixedOk trivial trivial
theorem calls (N : Nat) (a0 : List (List Int)) {rs : List Rs} (h : g N a0 (fun r0 => some [.dat (K.bool) r0]) = some rs) : CallsTo P 11 [⟨.sl (.sl (.int .i64)), a0⟩] rs := evF_calls' (ctxOk N) (by rfl) (ents11_ok N) ((eq N a0).trans h)
def L0.l {α : Type} (N : Nat) (x0 : (List (List Int))) (k0 : (Bool → Option α)) (k1 : Option α) : List (List Int) → Int → Option α
 | [], x1 => k1 
 | x :: l, x1 => (cond (decide ((↑(List.length x) : Int) < 1)) (k0 (false)) ((cond (decide (64 < (↑(List.length x) : Int))) (k0 (false)) ((cond (decide (0 ≤ 0) && decide (0 < (↑x0.length : Int))) (cond ((↑(List.length x) : Int) != (↑(List.length (x0.getD (Int.toNat (0 : Int)) [])) : Int)) (k0 (false)) (L0.l N x0 k0 k1 l (x1 + 1))) (none))))))
theorem L0.rng {α : Type} {N : Nat} (x0 : (List (List Int))) (hl : x0.length ≤ maxLen) (k0 : (Bool → Option α)) (k1 : Option α) : ∀ (n j : Nat), x0.length < n + j → j ≤ x0.length → L0.f N x0 n (j : Int) k0 k1 = L0.l N x0 k0 k1 (x0.drop j) (j : Int) :=
 rng0 x0 hl (fun n i => L0.f N x0 n i k0 k1) (fun l i => L0.l N x0 k0 k1 l i) (fun n j hj h ih => by simp only [L0.f, L0.st, L0.l, h.a, h.b, h.c, h.d, h.e, Bool.true_and, Bool.and_true, Bool.and_self, cond_true, ih] <;> rfl) (fun n j h => by simp only [L0.f, L0.st, L0.l, h, cond_false])
end pf08_Valid
theorem pf08_Valid.L0.law {α : Type} {N : Nat} (x0 : List (List Int)) (h0 : 0 < x0.length) (k0 : Bool → Option α) (k1 : Option α) : ∀ (l : List (List Int)) (j : Int), pf08_Valid.L0.l N x0 k0 k1 l j = cond (l.all fun r => decide (r.length = (x0.headD []).length) && decide (1 ≤ r.length) && decide (r.length ≤ 64)) k1 (k0 false)
 | [], j => rfl
 | x :: l, j => by
  have hd : x0.getD (Int.toNat (0 : Int)) [] = x0.headD [] := by cases x0 <;> rfl
  rw [pf08_Valid.L0.l, hd, bne_len, List.all_cons, pf08_Valid.L0.law x0 h0 k0 k1 l, decide_eq_true (by omega : (0 : Int) < (x0.length : Int))]
  by_cases h1 : x.length < 1
  ·
   rw [decide_eq_true (show (x.length : Int) < 1 by omega), decide_eq_false (by omega : ¬ 1 ≤ x.length)]
   simp
  rw [decide_eq_false (show ¬ (x.length : Int) < 1 by omega), decide_eq_true (by omega : 1 ≤ x.length)]
  by_cases h2 : 64 < x.length
  ·
   rw [decide_eq_true (show 64 < (x.length : Int) by omega), decide_eq_false (by omega : ¬ x.length ≤ 64)]
   simp
  rw [decide_eq_false (show ¬ 64 < (x.length : Int) by omega), decide_eq_true (by omega : x.length ≤ 64)]
  by_cases h3 : x.length = (x0.headD []).length
  ·
   rw [beq_t h3, decide_eq_true h3]; rfl
  ·
   rw [beq_f h3, decide_eq_false h3]; rfl
theorem pf08_Valid.law {α : Type} {N : Nat} (hN : 18446744073709551616 ≤ N) (a0 : List (List Int)) (w0 : K.wf (.sl (.sl (.int .i64))) a0) (kr : (Bool → Option α)) : pf08_Valid.g N a0 kr = kr (pf08_Valid.spec a0) := by
 unfold pf08_Valid.g pf08_Valid.spec validM
 by_cases h1 : a0.length < 1
 ·
  rw [decide_eq_true (show (a0.length : Int) < 1 by omega), decide_eq_false (show ¬ 1 ≤ a0.length by omega)]
  rfl
 rw [decide_eq_false (show ¬ (a0.length : Int) < 1 by omega), decide_eq_true (show 1 ≤ a0.length by omega)]
 by_cases h2 : 64 < a0.length
 ·
  rw [decide_eq_true (show 64 < (a0.length : Int) by omega), decide_eq_false (show ¬ a0.length ≤ 64 by omega)]
  rfl
 rw [decide_eq_false (show ¬ 64 < (a0.length : Int) by omega), decide_eq_true (show a0.length ≤ 64 by omega)]
 simp only [cond_false, Bool.true_and]
 refine (pf08_Valid.L0.rng (N := N) _ (w0.1) _ _ N 0  (by have := le_fuel (w0.1) hN; omega) (Nat.zero_le _)).trans ?_
 rw [List.drop_zero, pf08_Valid.L0.law a0 (by omega)]
 have e : (a0.all fun r => decide (r.length = (a0.headD []).length) && decide (1 ≤ r.length) && decide (r.length ≤ 64)) = ((a0.all fun r => decide (r.length = (a0.headD []).length)) && decide (1 ≤ (a0.headD []).length) && decide ((a0.headD []).length ≤ 64)) := by
  rw [Bool.eq_iff_iff]
  simp only [List.all_eq_true, Bool.and_eq_true, decide_eq_true_eq]
  constructor
  ·
   intro h
   cases a0 with
   | nil => simp at h1
   | cons x l =>
    have := h x (by simp)
    exact ⟨⟨fun r hr => (h r hr).1.1, this.1.2⟩, this.2⟩
  ·
   rintro ⟨⟨h, h3⟩, h4⟩ r hr
   have := h r hr
   omega
 rw [e]
 cases ((a0.all fun r => decide (r.length = (a0.headD []).length)) && decide (1 ≤ (a0.headD []).length) && decide ((a0.headD []).length ≤ 64)) <;> rfl
theorem pf08_Valid.ok : FentOk P 11 pf08_Valid.fent := fentOk_of (by kernel_rfl) fun ds hk => by
 obtain ⟨a0, l0, rfl, h0⟩ := ds_cons hk
 obtain rfl := ds0 h0
 exact ⟨true, [.dat (.bool) (pf08_Valid.spec a0)], fun h hw => pf08_Valid.calls 18446744073709551616 a0 (pf08_Valid.law (Nat.le_refl _) a0 hw.1 _), fun α k => rfl⟩
end Go.VI
namespace Go.VI
open Go Go.Proofs
namespace matrix_Valid
def an36 : Ann := [(5, [3, 18, 19, 20], [2, 3])]
def L0.sh : Sh := { sl := [(3, SV.a (SA.d (K.int IntKind.i64))), (18, SV.a (SA.d (K.int IntKind.i64).sl.sl)), (19, SV.a (SA.d (K.int IntKind.i64))), (20, SV.a (SA.d (K.int IntKind.i64)))], os := [], nx := 0 }
def L0.x0 : Sh := { sl := [(2, SV.a (SA.d K.bool)), (3, SV.a (SA.d (K.int IntKind.i64)))], os := [], nx := 0 }
def L0.x1 : Sh := { sl := [(2, SV.j), (3, SV.a (SA.d (K.int IntKind.i64)))], os := [], nx := 0 }
def L0.st {α : Type} (N : Nat) (x0 : Int) (x1 : (List (List Int))) (x2 : Int) (φ : (Int → Option α)) (x3 : Int) (k0 : (Bool → Option α)) (k1 : Option α) : Option α :=
 cond (decide (x3 < x2)) (cond (decide (0 ≤ x3) && decide (x3 < (↑x1.length : Int))) (cond ((↑(List.length (x1.getD x3.toNat [])) : Int) != x0) (k0 (false)) (φ (IntKind.i64.wrap (x3 + 1)))) (none)) (k1 )
def L0.f {α : Type} (N : Nat) (c0 : Int) (c1 : (List (List Int))) (c2 : Int) : Nat → Int → (Bool → Option α) → Option α → Option α
 | 0, _, _, _ => none
 | n + 1, d0, k0, k1 => L0.st N c0 c1 c2 (fun e0 => L0.f N c0 c1 c2 n e0 k0 k1) d0 k0 k1
def L0.up (d : L0.sh.T) (e0 : Int) : L0.sh.T := ((d.1.1, (d.1.2.1, (d.1.2.2.1, (e0, ())))), ())
def L0.k0 {α : Type} (d : L0.sh.T) (K : Cont α) : (Bool → Option α) := fun y0 => K (Exit.ret) (L0.x0.enc ((y0, (d.1.1, ())), ()))
def L0.k1 {α : Type} (d : L0.sh.T) (K : Cont α) : Option α := K (Exit.exit 0) (L0.x1.enc (((), (d.1.1, ())), ()))
def L0.F {α : Type} (N : Nat) (d : L0.sh.T) (K : Cont α) : Option α := L0.f N d.1.1 d.1.2.1 d.1.2.2.1 N d.1.2.2.2.1 (L0.k0 d K) (L0.k1 d K)
def ents36 {α : Type} (N : Nat) : List (SmE α) := [⟨0, 50, 5, [⟨L0.sh, L0.F N⟩]⟩]
def C (N : Nat) : Ctx := ⟨tys, [], [], N⟩
def L0.B {α : Type} (N : Nat) : Env → Cont α → Option α := evC tys 35 0 (evCall (C N) 50) (evCallQ (C N)) N an36 (smL (ents36 N) 0 50) (loopOf 5 Try.f36)
theorem L0.r {α : Type} (N : Nat) (φ : Env → Option α) (K : Cont α) (d : L0.sh.T) : L0.B N (L0.sh.enc d) (contL φ K (Env.norm 0 [3, 18, 19, 20]) (Env.norm 0 [2, 3])) = L0.st N d.1.1 d.1.2.1 d.1.2.2.1 (fun e0 => φ (L0.sh.enc (L0.up d e0))) d.1.2.2.2.1 (L0.k0 d K) (L0.k1 d K) := by kernel_rfl
theorem L0.e {α : Type} (N : Nat) : ∀ (n : Nat) (d : L0.sh.T) (K : Cont α), evL (L0.B N) (Env.norm 0 [3, 18, 19, 20]) (Env.norm 0 [2, 3]) n (L0.sh.enc d) K = L0.f N d.1.1 d.1.2.1 d.1.2.2.1 n d.1.2.2.2.1 (L0.k0 d K) (L0.k1 d K)
 | 0, d, K => rfl
 | n + 1, d, K => evL_contL.trans ((L0.r N _ K d).trans (congrArg (fun φ => L0.st N d.1.1 d.1.2.1 d.1.2.2.1 φ d.1.2.2.2.1 (L0.k0 d K) (L0.k1 d K)) (funext fun e0 => L0.e N n (L0.up d e0) K)))
theorem ents36_ok {α : Type} (N : Nat) : AllP (EntOk (C N) Try.f36 an36 (ents36 (α := α) N)) (ents36 N) := ⟨entOk_of (b0 := loopOf 5 Try.f36) (li0 := [3, 18, 19, 20]) (lx0 := [2, 3]) (by kernel_rfl) (by kernel_rfl) ⟨fun d K => L0.e N N d K, trivial⟩, trivial⟩
def g {α : Type} (N : Nat) (a0 : List (List Int)) (kr : (Bool → Option α)) : Option α :=
 cond (decide ((↑a0.length : Int) < 1)) (kr (false)) (cond (decide (64 < (↑a0.length : Int))) (kr (false)) (cond (decide (0 ≤ 0) && decide (0 < (↑a0.length : Int))) (L0.f N ((↑(List.length (a0.getD (Int.toNat (0 : Int)) [])) : Int)) (a0) ((↑a0.length : Int)) N (0) (fun x4 => kr (x4)) (cond (decide (1 ≤ (↑(List.length (a0.getD (Int.toNat (0 : Int)) [])) : Int))) (kr (decide ((↑(List.length (a0.getD (Int.toNat (0 : Int)) [])) : Int) ≤ 64))) (kr (false)))) (none)))
theorem eq (N : Nat) (a0 : List (List Int)) : evF (C N) 50 Try.f36 an36 (smL (ents36 N) 0 50) [((.bool : K), false)] [⟨.sl (.sl (.int .i64)), a0⟩] = g N a0 (fun r0 => some [.dat (K.bool) r0]) := by kernel_rfl
theorem ctxOk (N : Nat) : CtxOk P (C N) := ctxOk_of tysOk mixedOk trivial trivial
theorem calls (N : Nat) (a0 : List (List Int)) {rs : List Rs} (h : g N a0 (fun r0 => some [.dat (K.bool) r0]) = some rs) : CallsTo P 36 [⟨.sl (.sl (.int .i64)), a0⟩] rs := evF_calls' (ctxOk N) (by rfl) (ents36_ok N) ((eq N a0).trans h)
def L0.l {α : Type} (N : Nat) (x0 : Int) (x1 : (List (List Int))) (k0 : (Bool → Option α)) (k1 : Option α) : List (List Int) → Int → Option α
 | [], x3 => k1 
 | x :: l, x3 => (cond ((↑(List.length x) : Int) != x0) (k0 (false)) (L0.l N x0 x1 k0 k1 l (x3 + 1)))
theorem L0.rng {α : Type} {N : Nat} (x0 : Int) (x1 : (List (List Int))) (hl : x1.length ≤ maxLen) (k0 : (Bool → Option α)) (k1 : Option α) : ∀ (n j : Nat), x1.length < n + j → j ≤ x1.length → L0.f N x0 x1 (x1.length : Int) n (j : Int) k0 k1 = L0.l N x0 x1 k0 k1 (x1.drop j) (j : Int) :=
 rng0 x1 hl (fun n i => L0.f N x0 x1 (x1.length : Int) n i k0 k1) (fun l i => L0.l N x0 x1 k0 k1 l i) (fun n j hj h ih => by simp only [L0.f, L0.st, L0.l, h.a, h.b, h.c, h.d, h.e, Bool.true_and, Bool.and_true, Bool.and_self, cond_true, ih] <;> rfl) (fun n j h => by simp only [L0.f, L0.st, L0.l, h, cond_false])
end matrix_Valid
theorem matrix_Valid.L0.law {α : Type} {N : Nat} (m : Nat) (x1 : List (List Int)) (k0 : Bool → Option α) (k1 : Option α) : ∀ (l : List (List Int)) (j : Int), matrix_Valid.L0.l N (m : Int) x1 k0 k1 l j = cond (l.all fun r => decide (r.length = m)) k1 (k0 false)
 | [], j => rfl
 | x :: l, j => by
  rw [matrix_Valid.L0.l, bne_len, List.all_cons, matrix_Valid.L0.law m x1 k0 k1 l]
  by_cases h : x.length = m
  ·
   rw [beq_t h, decide_eq_true h]; rfl
  ·
   rw [beq_f h, decide_eq_false h]; rfl
theorem matrix_Valid.law {α : Type} {N : Nat} (hN : 18446744073709551616 ≤ N) (a0 : List (List Int)) (w0 : K.wf (.sl (.sl (.int .i64))) a0) (kr : (Bool → Option α)) : matrix_Valid.g N a0 kr = kr (matrix_Valid.spec a0) := by
 unfold matrix_Valid.g matrix_Valid.spec validM
 by_cases h1 : a0.length < 1
 ·
  rw [decide_eq_true (show (a0.length : Int) < 1 by omega), decide_eq_false (show ¬ 1 ≤ a0.length by omega)]
  rfl
 rw [decide_eq_false (show ¬ (a0.length : Int) < 1 by omega), decide_eq_true (show 1 ≤ a0.length by omega)]
 by_cases h2 : 64 < a0.length
 ·
  rw [decide_eq_true (show 64 < (a0.length : Int) by omega), decide_eq_false (show ¬ a0.length ≤ 64 by omega)]
  rfl
 rw [decide_eq_false (show ¬ 64 < (a0.length : Int) by omega), decide_eq_true (show a0.length ≤ 64 by omega), decide_eq_true (by omega : (0 : Int) < (a0.length : Int))]
 have hd : a0.getD (Int.toNat (0 : Int)) [] = a0.headD [] := by cases a0 <;> rfl
 rw [hd]
 generalize (a0.headD []).length = m
 simp only [cond_false, Int.le_refl, decide_true, Bool.and_self, cond_true, Bool.true_and]
 refine (matrix_Valid.L0.rng (N := N) _ _ (w0.1) _ _ N 0  (by have := le_fuel (w0.1) hN; omega) (Nat.zero_le _)).trans ?_
 rw [List.drop_zero, matrix_Valid.L0.law]
 cases a0.all fun r => decide (r.length = m)
 ·
  rfl
 ·
  by_cases h3 : 1 ≤ m
  ·
   rw [decide_eq_true (show (1 : Int) ≤ (m : Int) by omega), decide_eq_true h3]
   simp only [cond_true, Bool.true_and]
   by_cases h4 : m ≤ 64
   ·
    rw [decide_eq_true (show (m : Int) ≤ 64 by omega), decide_eq_true h4]
   ·
    rw [decide_eq_false (show ¬ (m : Int) ≤ 64 by omega), decide_eq_false h4]
  ·
   rw [decide_eq_false (show ¬ (1 : Int) ≤ (m : Int) by omega), decide_eq_false h3]
   rfl
theorem matrix_Valid.ok : FentOk P 36 matrix_Valid.fent := fentOk_of (by kernel_rfl) fun ds hk => by
 obtain ⟨a0, l0, rfl, h0⟩ := ds_cons hk
 obtain rfl := ds0 h0
 exact ⟨true, [.dat (.bool) (matrix_Valid.spec a0)], fun h hw => matrix_Valid.calls 18446744073709551616 a0 (matrix_Valid.law (Nat.le_refl _) a0 hw.1 _), fun α k => rfl⟩
end Go.VI
namespace Go.VI
open Go Go.Proofs
theorem beq0 {x : Int} : (x == 0) = true ↔ x = 0 := by simp
structure ArcsOk (np : Int) (l : List (Int × Int)) : Prop where
 rg : ∀ a ∈ l, (0 ≤ a.1 ∧ a.1 < np) ∧ 1 ≤ a.2 ∧ a.2 ≤ 99
 up : l.Pairwise fun a b => a.1 < b.1
theorem asc_len : ∀ (l : List (Int × Int)) (lo hi : Int), l.Pairwise (fun a b => a.1 < b.1) → (∀ a ∈ l, lo ≤ a.1 ∧ a.1 < hi) → lo ≤ hi → (l.length : Int) ≤ hi - lo
 | [], lo, hi, _, _, h => by simp; omega
 | a :: l, lo, hi, hp, hr, h => by
  have h1 := hr a (by simp)
  have := asc_len l (a.1 + 1) hi (List.pairwise_cons.1 hp).2 (fun b hb => ⟨by have := (List.pairwise_cons.1 hp).1 b hb; omega, (hr b (by simp [hb])).2⟩) (by omega)
  simp only [List.length_cons]
  omega
theorem ArcsOk.len {np : Int} {l : List (Int × Int)} (h : ArcsOk np l) (h0 : 0 ≤ np) : (l.length : Int) ≤ np := by
 have := asc_len l 0 np h.up (fun a ha => (h.rg a ha).1) h0
 omega
structure TransOk (np : Int) (t : TransT) : Prop where
 name : nameOk t.1 = true
 prio : 0 ≤ t.2.2.2.2 ∧ t.2.2.2.2 ≤ 9
 pre : ArcsOk np t.2.1
 post : ArcsOk np t.2.2.1
 inh : ArcsOk np t.2.2.2.1
structure PlaceOk (p : PlaceT) : Prop where
 name : nameOk p.1 = true
 cap : 0 ≤ p.2.2 ∧ p.2.2 ≤ 1048576
 init : 0 ≤ p.2.1 ∧ p.2.1 ≤ 1048576 ∧ (p.2.2 = 0 ∨ p.2.1 ≤ p.2.2)
structure ValidN (n : NetT) : Prop where
 name : nameOk n.1 = true
 np : 1 ≤ n.2.1.length ∧ n.2.1.length ≤ 24
 nt : n.2.2.length ≤ 24
 place : ∀ p ∈ n.2.1, PlaceOk p
 trans : ∀ t ∈ n.2.2, TransOk (n.2.1.length : Int) t
 pnames : (n.2.1.map (·.1)).Nodup
 tnames : (n.2.2.map (·.1)).Nodup
 apart : ∀ t ∈ n.2.2, t.1 ∉ n.2.1.map (·.1)
end Go.VI
namespace Go.VI
open Go Go.Proofs
theorem ble1 {α : Type} (acc : List α) (h : acc.length + 1 ≤ 1073741824) : ((acc.length + 1).ble mxl) = true := Nat.ble_eq_true_of_le h
structure BigT (t : TransT) : Prop where
 pre : bigL t.2.1 = true
 post : bigL t.2.2.1 = true
 inh : bigL t.2.2.2.1 = true
theorem ArcsOk.short {np : Nat} {l : List (Int × Int)} (h : ArcsOk (np : Int) l) (hn : np ≤ 24) : l.length ≤ 24 := by
 have := h.len (by omega)
 omega
end Go.VI
namespace Go.VI
open Go Go.Proofs
namespace semiflow_start
def an37 : Ann := [(4, [0, 3, 4, 5], [4]), (8, [0, 3, 4, 5, 6, 25, 26], [0, 3, 4, 5, 6])]
def L0.sh : Sh := { sl := [(0, SV.a (SA.d (K.int IntKind.i64).sl.sl)), (3, SV.a (SA.d (K.int IntKind.i64))), (4, SV.a (SA.fx (Atom.sl 0 0 none))), (5, SV.a (SA.d (K.int IntKind.i64))), (6, SV.a (SA.fx (Atom.sl 1 0 none))), (25, SV.a (SA.d (K.int IntKind.i64))), (26, SV.a (SA.d (K.int IntKind.i64)))], os := [(0, SO.row ((K.int IntKind.i64).sl.pr (K.int IntKind.i64)).st 0), (1, SO.row (K.int IntKind.i64) 0)], nx := 2 }
def L0.x0 : Sh := { sl := [(0, SV.a (SA.d (K.int IntKind.i64).sl.sl)), (3, SV.a (SA.d (K.int IntKind.i64))), (4, SV.a (SA.fx (Atom.sl 0 0 none))), (5, SV.a (SA.d (K.int IntKind.i64))), (6, SV.a (SA.fx (Atom.sl 1 0 none)))], os := [(0, SO.row ((K.int IntKind.i64).sl.pr (K.int IntKind.i64)).st 0), (1, SO.row (K.int IntKind.i64) 0)], nx := 2 }
def L0.st {α : Type} (N : Nat) (x4 : (List (List Int))) (x6 : Int) (x7 : Int) (φ : (Int → (List Int) → Option α)) (x8 : Int) (x10 : (List Int)) (k0 : ((List Int) → Option α)) : Option α :=
 cond (decide (x8 < x7)) (cond (decide (0 ≤ x8) && decide (x8 < (↑x4.length : Int))) (cond (decide (0 ≤ x6) && decide (x6 < (↑(List.length (x4.getD x8.toNat [])) : Int))) (cond (decide (0 ≤ x8) && decide (x8 < (↑x10.length : Int))) (φ (IntKind.i64.wrap (x8 + 1)) (x10.set (0 + x8.toNat) (List.getD (x4.getD x8.toNat []) x6.toNat (0 : Int)))) (none)) (none)) (none)) (k0 (x10))
def L0.f {α : Type} (N : Nat) (c0 : (List (List Int))) (c2 : Int) (c3 : Int) : Nat → Int → (List Int) → ((List Int) → Option α) → Option α
 | 0, _, _, _ => none
 | n + 1, d0, d1, k0 => L0.st N c0 c2 c3 (fun e0 e1 => L0.f N c0 c2 c3 n e0 e1 k0) d0 d1 k0
def L0.up (d : L0.sh.T) (e0 : Int) (e1 : (List Int)) : L0.sh.T := ((d.1.1, (d.1.2.1, ((), (d.1.2.2.2.1, ((), (d.1.2.2.2.2.2.1, (e0, ()))))))), (d.2.1, (e1, ())))
def L0.k0 {α : Type} (d : L0.sh.T) (K : Cont α) : ((List Int) → Option α) := fun y0 => K (Exit.exit 2) (L0.x0.enc ((d.1.1, (d.1.2.1, ((), (d.1.2.2.2.1, ((), ()))))), (d.2.1, (y0, ()))))
def L0.F {α : Type} (N : Nat) (d : L0.sh.T) (K : Cont α) : Option α := L0.f N d.1.1 d.1.2.2.2.1 d.1.2.2.2.2.2.1 N d.1.2.2.2.2.2.2.1 d.2.2.1 (L0.k0 d K)
def L1.sh : Sh := { sl := [(0, SV.a (SA.d (K.int IntKind.i64).sl.sl)), (3, SV.a (SA.d (K.int IntKind.i64))), (4, SV.a (SA.fx (Atom.sl 0 0 none))), (5, SV.a (SA.d (K.int IntKind.i64)))], os := [(0, SO.row ((K.int IntKind.i64).sl.pr (K.int IntKind.i64)).st 0)], nx := 1 }
def L1.x0 : Sh := { sl := [(4, SV.a (SA.fx (Atom.sl 0 0 none)))], os := [(0, SO.row ((K.int IntKind.i64).sl.pr (K.int IntKind.i64)).st 0)], nx := 1 }
def L1.st {α : Type} (N : Nat) (x0 : (List (List Int))) (x1 : Int) (φ : (Int → (List (List Int × Int)) → Option α)) (x2 : Int) (x3 : (List (List Int × Int))) (k0 : ((List (List Int × Int)) → Option α)) : Option α :=
 cond (decide (x2 < x1)) (cond (decide (0 ≤ IntKind.i64.wrap ((↑x0.length : Int) + x1)) && decide (IntKind.i64.wrap ((↑x0.length : Int) + x1) ≤ IntKind.i64.wrap ((↑x0.length : Int) + x1)) && decide (IntKind.i64.wrap ((↑x0.length : Int) + x1) ≤ 1073741824)) (L0.f N (x0) (x2) ((↑x0.length : Int)) N (0) (List.replicate (IntKind.i64.wrap ((↑x0.length : Int) + x1)).toNat (0 : Int)) (fun x11 => cond (decide (0 ≤ IntKind.i64.wrap ((↑x0.length : Int) + x2)) && decide (IntKind.i64.wrap ((↑x0.length : Int) + x2) < (↑x11.length : Int))) (cond ((x3.length + 1).ble mxl) (φ (IntKind.i64.wrap (x2 + 1)) (x3 ++ [(x11.set (0 + (IntKind.i64.wrap ((↑x0.length : Int) + x2)).toNat) 1, (↑x0.length : Int))])) (none)) (none))) (none)) (k0 (x3))
def L1.f {α : Type} (N : Nat) (c0 : (List (List Int))) (c1 : Int) : Nat → Int → (List (List Int × Int)) → ((List (List Int × Int)) → Option α) → Option α
 | 0, _, _, _ => none
 | n + 1, d0, d1, k0 => L1.st N c0 c1 (fun e0 e1 => L1.f N c0 c1 n e0 e1 k0) d0 d1 k0
def L1.up (d : L1.sh.T) (e0 : Int) (e1 : (List (List Int × Int))) : L1.sh.T := ((d.1.1, (d.1.2.1, ((), (e0, ())))), (e1, ()))
def L1.k0 {α : Type} (d : L1.sh.T) (K : Cont α) : ((List (List Int × Int)) → Option α) := fun y0 => K (Exit.exit 0) (L1.x0.enc (((), ()), (y0, ())))
def L1.F {α : Type} (N : Nat) (d : L1.sh.T) (K : Cont α) : Option α := L1.f N d.1.1 d.1.2.1 N d.1.2.2.2.1 d.2.1 (L1.k0 d K)
def ents37 {α : Type} (N : Nat) : List (SmE α) := [⟨0, 50, 8, [⟨L0.sh, L0.F N⟩]⟩, ⟨0, 50, 4, [⟨L1.sh, L1.F N⟩]⟩]
def C (N : Nat) : Ctx := ⟨tys, [], [], N⟩
def L0.B {α : Type} (N : Nat) : Env → Cont α → Option α := evC tys 54 0 (evCall (C N) 50) (evCallQ (C N)) N an37 (smL (ents37 N) 0 50) (loopOf 8 Try.f37)
theorem L0.r {α : Type} (N : Nat) (φ : Env → Option α) (K : Cont α) (d : L0.sh.T) : L0.B N (L0.sh.enc d) (contL φ K (Env.norm 0 [0, 3, 4, 5, 6, 25, 26]) (Env.norm 0 [0, 3, 4, 5, 6])) = L0.st N d.1.1 d.1.2.2.2.1 d.1.2.2.2.2.2.1 (fun e0 e1 => φ (L0.sh.enc (L0.up d e0 e1))) d.1.2.2.2.2.2.2.1 d.2.2.1 (L0.k0 d K) := by kernel_rfl
theorem L0.e {α : Type} (N : Nat) : ∀ (n : Nat) (d : L0.sh.T) (K : Cont α), evL (L0.B N) (Env.norm 0 [0, 3, 4, 5, 6, 25, 26]) (Env.norm 0 [0, 3, 4, 5, 6]) n (L0.sh.enc d) K = L0.f N d.1.1 d.1.2.2.2.1 d.1.2.2.2.2.2.1 n d.1.2.2.2.2.2.2.1 d.2.2.1 (L0.k0 d K)
 | 0, d, K => rfl
 | n + 1, d, K => evL_contL.trans ((L0.r N _ K d).trans (congrArg (fun φ => L0.st N d.1.1 d.1.2.2.2.1 d.1.2.2.2.2.2.1 φ d.1.2.2.2.2.2.2.1 d.2.2.1 (L0.k0 d K)) (funext fun e0 => funext fun e1 => L0.e N n (L0.up d e0 e1) K)))
def L1.B {α : Type} (N : Nat) : Env → Cont α → Option α := evC tys 54 0 (evCall (C N) 50) (evCallQ (C N)) N an37 (smL (ents37 N) 0 50) (loopOf 4 Try.f37)
theorem L1.r {α : Type} (N : Nat) (φ : Env → Option α) (K : Cont α) (d : L1.sh.T) : L1.B N (L1.sh.enc d) (contL φ K (Env.norm 0 [0, 3, 4, 5]) (Env.norm 0 [4])) = L1.st N d.1.1 d.1.2.1 (fun e0 e1 => φ (L1.sh.enc (L1.up d e0 e1))) d.1.2.2.2.1 d.2.1 (L1.k0 d K) := by kernel_rfl
theorem L1.e {α : Type} (N : Nat) : ∀ (n : Nat) (d : L1.sh.T) (K : Cont α), evL (L1.B N) (Env.norm 0 [0, 3, 4, 5]) (Env.norm 0 [4]) n (L1.sh.enc d) K = L1.f N d.1.1 d.1.2.1 n d.1.2.2.2.1 d.2.1 (L1.k0 d K)
 | 0, d, K => rfl
 | n + 1, d, K => evL_contL.trans ((L1.r N _ K d).trans (congrArg (fun φ => L1.st N d.1.1 d.1.2.1 φ d.1.2.2.2.1 d.2.1 (L1.k0 d K)) (funext fun e0 => funext fun e1 => L1.e N n (L1.up d e0 e1) K)))
theorem ents37_ok {α : Type} (N : Nat) : AllP (EntOk (C N) Try.f37 an37 (ents37 (α := α) N)) (ents37 N) := ⟨entOk_of (b0 := loopOf 8 Try.f37) (li0 := [0, 3, 4, 5, 6, 25, 26]) (lx0 := [0, 3, 4, 5, 6]) (by kernel_rfl) (by kernel_rfl) ⟨fun d K => L0.e N N d K, trivial⟩, entOk_of (b0 := loopOf 4 Try.f37) (li0 := [0, 3, 4, 5]) (lx0 := [4]) (by kernel_rfl) (by kernel_rfl) ⟨fun d K => L1.e N N d K, trivial⟩, trivial⟩
def g {α : Type} (N : Nat) (a0 : List (List Int)) (kr : ((List (List Int × Int)) → Option α)) : Option α :=
 cond (decide (0 ≤ 0) && decide (0 < (↑a0.length : Int))) (cond (decide (0 ≤ 0) && decide (0 ≤ (↑(List.length (a0.getD (Int.toNat (0 : Int)) [])) : Int)) && decide ((↑(List.length (a0.getD (Int.toNat (0 : Int)) [])) : Int) ≤ 1073741824)) (L1.f N (a0) ((↑(List.length (a0.getD (Int.toNat (0 : Int)) [])) : Int)) N (0) (List.replicate (Int.toNat (0 : Int)) ([], 0)) (fun x12 => kr (x12))) (none)) (none)
theorem eq (N : Nat) (a0 : List (List Int)) : evF (C N) 50 Try.f37 an37 (smL (ents37 N) 0 50) [((.sl (.st (.pr (.sl (.int .i64)) (.int .i64))) : K), false)] [⟨.sl (.sl (.int .i64)), a0⟩] = g N a0 (fun r0 => some [.dat (((K.int IntKind.i64).sl.pr (K.int IntKind.i64)).st.sl) r0]) := by kernel_rfl
theorem ctxOk (N : Nat) : CtxOk P (C N) := ctxOk_of tysOk mixedOk trivial trivial
theorem calls (N : Nat) (a0 : List (List Int)) {rs : List Rs} (h : g N a0 (fun r0 => some [.dat (((K.int IntKind.i64).sl.pr (K.int IntKind.i64)).st.sl) r0]) = some rs) : CallsTo P 37 [⟨.sl (.sl (.int .i64)), a0⟩] rs := evF_calls' (ctxOk N) (by rfl) (ents37_ok N) ((eq N a0).trans h)
def L0.l {α : Type} (N : Nat) (x4 : (List (List Int))) (x6 : Int) (k0 : ((List Int) → Option α)) : List (List Int) → Int → (List Int) → Option α
 | [], x8, x10 => k0 (x10)
 | x :: l, x8, x10 => (cond (decide (0 ≤ x6) && decide (x6 < (↑(List.length x) : Int))) (cond (decide (0 ≤ x8) && decide (x8 < (↑x10.length : Int))) (L0.l N x4 x6 k0 l (x8 + 1) (x10.set (0 + x8.toNat) (List.getD x x6.toNat (0 : Int)))) (none)) (none))
theorem L0.rng {α : Type} {N : Nat} (x4 : (List (List Int))) (x6 : Int) (hl : x4.length ≤ maxLen) (k0 : ((List Int) → Option α)) : ∀ (n j : Nat) (x10 : (List Int)), x4.length < n + j → j ≤ x4.length → L0.f N x4 x6 (x4.length : Int) n (j : Int) x10 k0 = L0.l N x4 x6 k0 (x4.drop j) (j : Int) x10 :=
 rng1 x4 hl (fun n i x10 => L0.f N x4 x6 (x4.length : Int) n i x10 k0) (fun l i x10 => L0.l N x4 x6 k0 l i x10) (fun n j hj h ih x10 => by simp only [L0.f, L0.st, L0.l, h.a, h.b, h.c, h.d, h.e, Bool.true_and, Bool.and_true, Bool.and_self, cond_true, ih] <;> rfl) (fun n j h x10 => by simp only [L0.f, L0.st, L0.l, h, cond_false])
end semiflow_start
theorem validM_iff {a : List (List Int)} : validM a = true ↔ (1 ≤ a.length ∧ a.length ≤ 64) ∧ (∀ r ∈ a, r.length = (a.headD []).length) ∧ 1 ≤ (a.headD []).length ∧ (a.headD []).length ≤ 64 := by
 unfold validM
 simp only [Bool.and_eq_true, decide_eq_true_eq, List.all_eq_true]
 exact ⟨fun ⟨⟨⟨⟨a, b⟩, c⟩, d⟩, e⟩ => ⟨⟨a, b⟩, c, d, e⟩, fun ⟨⟨a, b⟩, c, d, e⟩ => ⟨⟨⟨⟨a, b⟩, c⟩, d⟩, e⟩⟩
theorem unitL_eq : ∀ (n i : Nat), i < n → unitL n i = List.replicate i 0 ++ 1 :: List.replicate (n - i - 1) 0 := by
 intro n i h
 apply List.ext_getElem (by simp [unitL]; omega)
 intro k h1 h2
 simp only [unitL, List.getElem_map, List.getElem_range]
 rw [List.getElem_append]
 simp only [List.length_replicate]
 by_cases e : k < i
 ·
  simp only [dif_pos e, List.getElem_replicate]
  rw [beq_f (by omega)]; rfl
 ·
  simp only [dif_neg e]
  by_cases e2 : k = i
  ·
   subst e2
   simp [Nat.beq_refl]
  ·
   rw [beq_f e2, List.getElem_cons, dif_neg (by omega), List.getElem_replicate]; rfl
theorem semiflow_start.L0.law {α : Type} {N : Nat} (x4 : List (List Int)) (c : Nat) (k0 : List Int → Option α) : ∀ (l : List (List Int)) (j : Nat) (pre rest : List Int), pre.length = j → (∀ r ∈ l, c < r.length) → l.length ≤ rest.length →
  semiflow_start.L0.l N x4 (c : Int) k0 l (j : Int) (pre ++ rest) = k0 (pre ++ l.map (fun (r : List Int) => r.getD c 0) ++ rest.drop l.length)
 | [], j, pre, rest, _, _, _ => by simp [semiflow_start.L0.l]
 | x :: l, j, pre, [], _, _, h => by simp at h
 | x :: l, j, pre, y :: rest, hp, hc, h => by
  have hx := hc x (by simp)
  have e1 : decide ((j : Int) < ((pre ++ y :: rest).length : Int)) = true := d_lt (by simp; omega)
  rw [semiflow_start.L0.l, d_0, d_0, d_lt hx, e1]
  simp only [Bool.and_self, cond_true, Nat.zero_add, Int.toNat_natCast]
  rw [set_mid pre _ y _ hp, ← succ_cast]
  have ih := semiflow_start.L0.law (N := N) x4 c k0 l (j + 1) (pre ++ [x.getD c 0]) rest (by simp [hp]) (fun r hr => hc r (by simp [hr])) (by simpa using h)
  simp only [List.append_assoc, List.singleton_append] at ih
  rw [ih]
  first | rfl | simp
theorem semiflow_start.L1.law {α : Type} {N : Nat} (hN : 18446744073709551616 ≤ N) (a : List (List Int)) (m : Nat) (ha : a.length ≤ 64) (hm : m ≤ 64) (hr : ∀ r ∈ a, r.length = m) (k0 : List RowT → Option α) : ∀ (n c : Nat) (acc : List RowT), m < n + c → c ≤ m → acc.length = c → semiflow_start.L1.f N a (m : Int) n (c : Int) acc k0 = k0 (acc ++ ((List.range m).drop c).map fun c => (a.map (fun (r : List Int) => r.getD c 0) ++ unitL m c, (a.length : Int)))
 | 0, c, acc, h, hc, _ => absurd h (by omega)
 | n + 1, c, acc, h, hc, hl => by
  rw [semiflow_start.L1.f, semiflow_start.L1.st]
  by_cases hlt : c < m
  ·
   have ew : IntKind.i64.wrap ((a.length : Int) + (m : Int)) = ((a.length + m : Nat) : Int) := by rw [wrap_i64 (inI_i64.2 (by omega))]; omega
   have ew2 : IntKind.i64.wrap ((a.length : Int) + (c : Int)) = ((a.length + c : Nat) : Int) := by rw [wrap_i64 (inI_i64.2 (by omega))]; omega
   have ew3 : IntKind.i64.wrap ((c : Int) + 1) = ((c + 1 : Nat) : Int) := by rw [wrap_i64 (inI_i64.2 (by omega))]; omega
   have e1 : decide (((a.length + m : Nat) : Int) ≤ 1073741824) = true := decide_eq_true (by omega)
   rw [d_lt hlt, cond_true, ew, ew2, ew3, d_0, decide_eq_true (Int.le_refl _), e1]
   simp only [Bool.and_self, cond_true, Int.toNat_natCast]
   have hw : a.length ≤ maxLen := by unfold maxLen; omega
   refine (semiflow_start.L0.rng (N := N) a _ hw _ N 0 _ (by have := le_fuel hw hN; omega) (Nat.zero_le _)).trans ?_
   rw [List.drop_zero]
   refine (semiflow_start.L0.law (N := N) a c _ a 0 [] (List.replicate (a.length + m) 0) rfl (fun r hr' => by rw [hr r hr']; exact hlt) (by simp)).trans ?_
   have hlen : ([] ++ a.map (fun (r : List Int) => r.getD c 0) ++ (List.replicate (a.length + m) (0 : Int)).drop a.length).length = a.length + m := by simp
   have hset : ([] ++ a.map (fun (r : List Int) => r.getD c 0) ++ (List.replicate (a.length + m) (0 : Int)).drop a.length).set (0 + (a.length + c)) 1 = a.map (fun (r : List Int) => r.getD c 0) ++ unitL m c := by
    rw [unitL_eq m c hlt, List.nil_append, Nat.zero_add, List.drop_replicate, show a.length + m - a.length = c + (m - c - 1 + 1) by omega, ← List.replicate_append_replicate, List.replicate_succ, ← List.append_assoc,
     set_mid (a.map (fun (r : List Int) => r.getD c 0) ++ List.replicate c 0) _ 0 1 (by simp), List.append_assoc]
   rw [hset, hlen, d_lt (show a.length + c < a.length + m by omega), d_0]
   rw [show ((acc.length + 1).ble mxl) = true from ble1 _ (by omega)]
   refine Eq.trans (b := semiflow_start.L1.f N a (m : Int) n ((c + 1 : Nat) : Int) _ k0) rfl ?_
   rw [semiflow_start.L1.law hN a m ha hm hr k0 n (c + 1) _ (by omega) (by omega) (by simp [hl])]
   have hd : c < (List.range m).length := by simpa using hlt
   rw [List.drop_eq_getElem_cons hd]
   first | rfl | simp
  ·
   have e1 : decide ((c : Int) < (m : Int)) = false := decide_eq_false (by omega)
   rw [e1, cond_false, List.drop_eq_nil_of_le (by simp; omega)]
   first | rfl | simp
theorem semiflow_start.law {α : Type} {N : Nat} (hN : 18446744073709551616 ≤ N) (a0 : List (List Int)) (w0 : K.wf (.sl (.sl (.int .i64))) a0) (hp : semiflow_start.pre a0 = true) (kr : ((List (List Int × Int)) → Option α)) : semiflow_start.g N a0 kr = kr (semiflow_start.spec a0) := by
 unfold semiflow_start.g semiflow_start.spec startS
 obtain ⟨⟨h1, h2⟩, h3, h4, h5⟩ := validM_iff.1 hp
 have hd : a0.getD (Int.toNat (0 : Int)) [] = a0.headD [] := by cases a0 <;> rfl
 rw [hd, decide_eq_true (by omega : (0 : Int) < (a0.length : Int)), d_0, decide_eq_true (show (((a0.headD []).length : Nat) : Int) ≤ 1073741824 by omega)]
 refine Eq.trans (b := semiflow_start.L1.f N a0 (((a0.headD []).length : Nat) : Int) N ((0 : Nat) : Int) [] _) rfl ?_
 refine (semiflow_start.L1.law (N := N) hN a0 (a0.headD []).length h2 h5 h3 _ N 0 [] (by omega) (Nat.zero_le _) rfl).trans ?_
 first | rfl | simp
theorem semiflow_start.ok : FentOk P 37 semiflow_start.fent := fentOk_of (by kernel_rfl) fun ds hk => by
 obtain ⟨a0, l0, rfl, h0⟩ := ds_cons hk
 obtain rfl := ds0 h0
 exact ⟨semiflow_start.pre a0, [.dat (.sl (.st (.pr (.sl (.int .i64)) (.int .i64)))) (semiflow_start.spec a0)], fun h hw => semiflow_start.calls 18446744073709551616 a0 (semiflow_start.law (Nat.le_refl _) a0 hw.1 h _), fun α k => rfl⟩
end Go.VI
namespace Go.VI
open Go Go.Proofs
namespace vector_Support
def an106 : Ann := [(3, [3, 6, 7, 8], [3])]
def L0.sh : Sh := { sl := [(3, SV.a (SA.fx (Atom.sl 0 0 none))), (6, SV.a (SA.d (K.int IntKind.i64).sl)), (7, SV.a (SA.d (K.int IntKind.i64))), (8, SV.a (SA.d (K.int IntKind.i64)))], os := [(0, SO.row (K.int IntKind.i64) 0)], nx := 1 }
def L0.x0 : Sh := { sl := [(3, SV.a (SA.fx (Atom.sl 0 0 none)))], os := [(0, SO.row (K.int IntKind.i64) 0)], nx := 1 }
def L0.st {α : Type} (N : Nat) (x0 : (List Int)) (x1 : Int) (φ : (Int → (List Int) → Option α)) (x2 : Int) (x3 : (List Int)) (k0 : ((List Int) → Option α)) : Option α :=
 cond (decide (x2 < x1)) (cond (decide (0 ≤ x2) && decide (x2 < (↑x0.length : Int))) (cond (x0.getD x2.toNat 0 != 0) (cond ((x3.length + 1).ble mxl) (φ (IntKind.i64.wrap (x2 + 1)) (x3 ++ [x2])) (none)) (φ (IntKind.i64.wrap (x2 + 1)) (x3))) (none)) (k0 (x3))
def L0.f {α : Type} (N : Nat) (c0 : (List Int)) (c1 : Int) : Nat → Int → (List Int) → ((List Int) → Option α) → Option α
 | 0, _, _, _ => none
 | n + 1, d0, d1, k0 => L0.st N c0 c1 (fun e0 e1 => L0.f N c0 c1 n e0 e1 k0) d0 d1 k0
def L0.up (d : L0.sh.T) (e0 : Int) (e1 : (List Int)) : L0.sh.T := (((), (d.1.2.1, (d.1.2.2.1, (e0, ())))), (e1, ()))
def L0.k0 {α : Type} (d : L0.sh.T) (K : Cont α) : ((List Int) → Option α) := fun y0 => K (Exit.exit 0) (L0.x0.enc (((), ()), (y0, ())))
def L0.F {α : Type} (N : Nat) (d : L0.sh.T) (K : Cont α) : Option α := L0.f N d.1.2.1 d.1.2.2.1 N d.1.2.2.2.1 d.2.1 (L0.k0 d K)
def ents106 {α : Type} (N : Nat) : List (SmE α) := [⟨0, 50, 3, [⟨L0.sh, L0.F N⟩]⟩]
def C (N : Nat) : Ctx := ⟨tys, [], [], N⟩
def L0.B {α : Type} (N : Nat) : Env → Cont α → Option α := evC tys 21 0 (evCall (C N) 50) (evCallQ (C N)) N an106 (smL (ents106 N) 0 50) (loopOf 3 Try.f106)
theorem L0.r {α : Type} (N : Nat) (φ : Env → Option α) (K : Cont α) (d : L0.sh.T) : L0.B N (L0.sh.enc d) (contL φ K (Env.norm 0 [3, 6, 7, 8]) (Env.norm 0 [3])) = L0.st N d.1.2.1 d.1.2.2.1 (fun e0 e1 => φ (L0.sh.enc (L0.up d e0 e1))) d.1.2.2.2.1 d.2.1 (L0.k0 d K) := by kernel_rfl
theorem L0.e {α : Type} (N : Nat) : ∀ (n : Nat) (d : L0.sh.T) (K : Cont α), evL (L0.B N) (Env.norm 0 [3, 6, 7, 8]) (Env.norm 0 [3]) n (L0.sh.enc d) K = L0.f N d.1.2.1 d.1.2.2.1 n d.1.2.2.2.1 d.2.1 (L0.k0 d K)
 | 0, d, K => rfl
 | n + 1, d, K => evL_contL.trans ((L0.r N _ K d).trans (congrArg (fun φ => L0.st N d.1.2.1 d.1.2.2.1 φ d.1.2.2.2.1 d.2.1 (L0.k0 d K)) (funext fun e0 => funext fun e1 => L0.e N n (L0.up d e0 e1) K)))
theorem ents106_ok {α : Type} (N : Nat) : AllP (EntOk (C N) Try.f106 an106 (ents106 (α := α) N)) (ents106 N) := ⟨entOk_of (b0 := loopOf 3 Try.f106) (li0 := [3, 6, 7, 8]) (lx0 := [3]) (by kernel_rfl) (by kernel_rfl) ⟨fun d K => L0.e N N d K, trivial⟩, trivial⟩
def g {α : Type} (N : Nat) (a0 : List Int) (kr : ((List Int) → Option α)) : Option α :=
 L0.f N (a0) ((↑a0.length : Int)) N (0) ([]) (fun x4 => kr (x4))
theorem eq (N : Nat) (a0 : List Int) : evF (C N) 50 Try.f106 an106 (smL (ents106 N) 0 50) [(((.int .i64) : K), true)] [⟨.sl (.int .i64), a0⟩] = g N a0 (fun r0 => some [.own (K.int IntKind.i64) r0]) := by kernel_rfl
theorem ctxOk (N : Nat) : CtxOk P (C N) := ctxOk_of tysOk mixedOk trivial trivial
theorem calls (N : Nat) (a0 : List Int) {rs : List Rs} (h : g N a0 (fun r0 => some [.own (K.int IntKind.i64) r0]) = some rs) : CallsTo P 106 [⟨.sl (.int .i64), a0⟩] rs := evF_calls' (ctxOk N) (by rfl) (ents106_ok N) ((eq N a0).trans h)
def L0.l {α : Type} (N : Nat) (x0 : (List Int)) (k0 : ((List Int) → Option α)) : List Int → Int → (List Int) → Option α
 | [], x2, x3 => k0 (x3)
 | x :: l, x2, x3 => (cond (x != 0) (cond ((x3.length + 1).ble mxl) (L0.l N x0 k0 l (x2 + 1) (x3 ++ [x2])) (none)) (L0.l N x0 k0 l (x2 + 1) (x3)))
theorem L0.rng {α : Type} {N : Nat} (x0 : (List Int)) (hl : x0.length ≤ maxLen) (k0 : ((List Int) → Option α)) : ∀ (n j : Nat) (x3 : (List Int)), x0.length < n + j → j ≤ x0.length → L0.f N x0 (x0.length : Int) n (j : Int) x3 k0 = L0.l N x0 k0 (x0.drop j) (j : Int) x3 :=
 rng1 x0 hl (fun n i x3 => L0.f N x0 (x0.length : Int) n i x3 k0) (fun l i x3 => L0.l N x0 k0 l i x3) (fun n j hj h ih x3 => by simp only [L0.f, L0.st, L0.l, h.a, h.b, h.c, h.d, h.e, Bool.true_and, Bool.and_true, Bool.and_self, cond_true, ih] <;> rfl) (fun n j h x3 => by simp only [L0.f, L0.st, L0.l, h, cond_false])
end vector_Support
theorem vector_Support.L0.law {α : Type} {N : Nat} (x0 : List Int) (k0 : List Int → Option α) : ∀ (l : List Int) (j : Int) (acc : List Int), acc.length + l.length ≤ 1073741824 → vector_Support.L0.l N x0 k0 l j acc = k0 (acc ++ suppL j l)
 | [], j, acc, _ => by rw [vector_Support.L0.l, suppL, List.append_nil]
 | x :: l, j, acc, h => by
  simp only [List.length_cons] at h
  rw [vector_Support.L0.l, suppL, ble1 _ (by omega)]
  cases hx : x == 0
  ·
   simp only [bne, hx, Bool.not_false, cond_true, cond_false]
   rw [vector_Support.L0.law x0 k0 l _ _ (by simp; omega)]
   simp
  ·
   simp only [bne, hx, Bool.not_true, cond_true, cond_false]
   rw [vector_Support.L0.law x0 k0 l _ _ (by omega)]
theorem vector_Support.law {α : Type} {N : Nat} (hN : 18446744073709551616 ≤ N) (a0 : List Int) (w0 : K.wf (.sl (.int .i64)) a0) (hp : vector_Support.pre a0 = true) (kr : ((List Int) → Option α)) : vector_Support.g N a0 kr = kr (vector_Support.spec a0) := by
 unfold vector_Support.g vector_Support.spec
 simp only [vector_Support.pre, bigL, decide_eq_true_eq] at hp
 refine (vector_Support.L0.rng (N := N) _ (w0.1) _ N 0 _ (by have := le_fuel (w0.1) hN; omega) (Nat.zero_le _)).trans ?_
 rw [List.drop_zero]
 refine (vector_Support.L0.law (N := N) a0 _ a0 0 [] (by simp; omega)).trans ?_
 rfl
theorem vector_Support.ok : FentOk P 106 vector_Support.fent := fentOk_of (by kernel_rfl) fun ds hk => by
 obtain ⟨a0, l0, rfl, h0⟩ := ds_cons hk
 obtain rfl := ds0 h0
 exact ⟨vector_Support.pre a0, [.own (.int .i64) (vector_Support.spec a0)], fun h hw => vector_Support.calls 18446744073709551616 a0 (vector_Support.law (Nat.le_refl _) a0 hw.1 h _), fun α k => rfl⟩
end Go.VI
namespace Go.VI
open Go Go.Proofs
namespace semiflow_row_support
def an91 : Ann := [(3, [3, 11, 12, 13], [3])]
def L0.sh : Sh := { sl := [(3, SV.a (SA.d (K.int IntKind.u64))), (11, SV.a (SA.fx (Atom.sl 0 0 none))), (12, SV.a (SA.d (K.int IntKind.i64))), (13, SV.a (SA.d (K.int IntKind.i64)))], os := [(0, SO.row (K.int IntKind.i64) 0)], nx := 1 }
def L0.x0 : Sh := { sl := [(3, SV.a (SA.d (K.int IntKind.u64)))], os := [], nx := 0 }
def L0.st {α : Type} (N : Nat) (x1 : Int) (x3 : (List Int)) (φ : (Int → Int → Option α)) (x0 : Int) (x2 : Int) (k0 : (Int → Option α)) : Option α :=
 cond (decide (x2 < x1)) (cond (decide (0 ≤ x2) && decide (x2 < (↑x3.length : Int))) (cond (decide (0 ≤ IntKind.u64.wrap (x3.getD (0 + x2.toNat) 0))) (φ (IntKind.u64.wrap (↑(BitVec.ofInt IntKind.u64.bits x0 ||| BitVec.ofInt IntKind.u64.bits (IntKind.u64.wrap (1 * 2 ^ min (IntKind.u64.wrap (x3.getD (0 + x2.toNat) 0)).toNat IntKind.u64.bits))).toNat : Int)) (IntKind.i64.wrap (x2 + 1))) (none)) (none)) (k0 (x0))
def L0.f {α : Type} (N : Nat) (c0 : Int) (c1 : (List Int)) : Nat → Int → Int → (Int → Option α) → Option α
 | 0, _, _, _ => none
 | n + 1, d0, d1, k0 => L0.st N c0 c1 (fun e0 e1 => L0.f N c0 c1 n e0 e1 k0) d0 d1 k0
def L0.up (d : L0.sh.T) (e0 : Int) (e1 : Int) : L0.sh.T := ((e0, ((), (d.1.2.2.1, (e1, ())))), (d.2.1, ()))
def L0.k0 {α : Type} (d : L0.sh.T) (K : Cont α) : (Int → Option α) := fun y0 => K (Exit.exit 0) (L0.x0.enc ((y0, ()), ()))
def L0.F {α : Type} (N : Nat) (d : L0.sh.T) (K : Cont α) : Option α := L0.f N d.1.2.2.1 d.2.1 N d.1.1 d.1.2.2.2.1 (L0.k0 d K)
def ents91 {α : Type} (N : Nat) : List (SmE α) := [⟨0, 50, 3, [⟨L0.sh, L0.F N⟩]⟩]
def C (N : Nat) : Ctx := ⟨tys, [(106, vector_Support.fent)], [], N⟩
def L0.B {α : Type} (N : Nat) : Env → Cont α → Option α := evC tys 24 0 (evCall (C N) 50) (evCallQ (C N)) N an91 (smL (ents91 N) 0 50) (loopOf 3 Try.f91)
theorem L0.r {α : Type} (N : Nat) (φ : Env → Option α) (K : Cont α) (d : L0.sh.T) : L0.B N (L0.sh.enc d) (contL φ K (Env.norm 0 [3, 11, 12, 13]) (Env.norm 0 [3])) = L0.st N d.1.2.2.1 d.2.1 (fun e0 e1 => φ (L0.sh.enc (L0.up d e0 e1))) d.1.1 d.1.2.2.2.1 (L0.k0 d K) := by kernel_rfl
theorem L0.e {α : Type} (N : Nat) : ∀ (n : Nat) (d : L0.sh.T) (K : Cont α), evL (L0.B N) (Env.norm 0 [3, 11, 12, 13]) (Env.norm 0 [3]) n (L0.sh.enc d) K = L0.f N d.1.2.2.1 d.2.1 n d.1.1 d.1.2.2.2.1 (L0.k0 d K)
 | 0, d, K => rfl
 | n + 1, d, K => evL_contL.trans ((L0.r N _ K d).trans (congrArg (fun φ => L0.st N d.1.2.2.1 d.2.1 φ d.1.1 d.1.2.2.2.1 (L0.k0 d K)) (funext fun e0 => funext fun e1 => L0.e N n (L0.up d e0 e1) K)))
theorem ents91_ok {α : Type} (N : Nat) : AllP (EntOk (C N) Try.f91 an91 (ents91 (α := α) N)) (ents91 N) := ⟨entOk_of (b0 := loopOf 3 Try.f91) (li0 := [3, 11, 12, 13]) (lx0 := [3]) (by kernel_rfl) (by kernel_rfl) ⟨fun d K => L0.e N N d K, trivial⟩, trivial⟩
def g {α : Type} (N : Nat) (a0 : List Int × Int) (kr : (Int → Option α)) : Option α :=
 cond (decide (0 ≤ a0.snd) && decide (a0.snd ≤ (↑(List.length a0.fst) : Int)) && decide ((↑(List.length a0.fst) : Int) ≤ (↑(List.length a0.fst) : Int))) (cond (vector_Support.pre (List.drop (Int.toNat a0.snd) a0.fst)) (L0.f N ((↑(vector_Support.spec (List.drop (Int.toNat a0.snd) a0.fst)).length : Int)) ((vector_Support.spec (List.drop (Int.toNat a0.snd) a0.fst))) N (0) (0) (fun x4 => kr (x4))) (none)) (none)
theorem eq (N : Nat) (a0 : List Int × Int) : evF (C N) 50 Try.f91 an91 (smL (ents91 N) 0 50) [((.int .u64 : K), false)] [⟨.st (.pr (.sl (.int .i64)) (.int .i64)), a0⟩] = g N a0 (fun r0 => some [.dat (K.int IntKind.u64) r0]) := by kernel_rfl
theorem ctxOk (N : Nat) : CtxOk P (C N) := ctxOk_of tysOk mixedOk ⟨vector_Support.ok, trivial⟩ trivial
theorem calls (N : Nat) (a0 : List Int × Int) {rs : List Rs} (h : g N a0 (fun r0 => some [.dat (K.int IntKind.u64) r0]) = some rs) : CallsTo P 91 [⟨.st (.pr (.sl (.int .i64)) (.int .i64)), a0⟩] rs := evF_calls' (ctxOk N) (by rfl) (ents91_ok N) ((eq N a0).trans h)
def L0.l {α : Type} (N : Nat) (x3 : (List Int)) (k0 : (Int → Option α)) : List Int → Int → Int → Option α
 | [], x2, x0 => k0 (x0)
 | x :: l, x2, x0 => (cond (decide (0 ≤ IntKind.u64.wrap x)) (L0.l N x3 k0 l (x2 + 1) (IntKind.u64.wrap (↑(BitVec.ofInt IntKind.u64.bits x0 ||| BitVec.ofInt IntKind.u64.bits (IntKind.u64.wrap (1 * 2 ^ min (IntKind.u64.wrap x).toNat IntKind.u64.bits))).toNat : Int))) (none))
theorem L0.rng {α : Type} {N : Nat} (x3 : (List Int)) (hl : x3.length ≤ maxLen) (k0 : (Int → Option α)) : ∀ (n j : Nat) (x0 : Int), x3.length < n + j → j ≤ x3.length → L0.f N (x3.length : Int) x3 n x0 (j : Int) k0 = L0.l N x3 k0 (x3.drop j) (j : Int) x0 :=
 rng1 x3 hl (fun n i x0 => L0.f N (x3.length : Int) x3 n x0 i k0) (fun l i x0 => L0.l N x3 k0 l i x0) (fun n j hj h ih x0 => by simp only [L0.f, L0.st, L0.l, h.a, h.b, h.c, h.d, h.e, Bool.true_and, Bool.and_true, Bool.and_self, cond_true, ih] <;> rfl) (fun n j h x0 => by simp only [L0.f, L0.st, L0.l, h, cond_false])
end semiflow_row_support
theorem or_pow {s : Int} {i : Nat} (h0 : 0 ≤ s) (h1 : s < 2 ^ i) (hi : i < 64) : IntKind.u64.wrap (((BitVec.ofInt IntKind.u64.bits s ||| BitVec.ofInt IntKind.u64.bits (IntKind.u64.wrap (1 * 2 ^ min (IntKind.u64.wrap (i : Int)).toNat IntKind.u64.bits))).toNat : Nat) : Int) = s + 2 ^ i := by
 have hb : (2 : Nat) ^ i ≤ 2 ^ 63 := Nat.pow_le_pow_right (by decide) (by omega)
 have e63 : (2 : Nat) ^ 63 = 9223372036854775808 := by decide
 have hc : ((2 : Int) ^ i) = (((2 : Nat) ^ i : Nat) : Int) := by simp
 have hm : min (IntKind.u64.wrap (i : Int)).toNat IntKind.u64.bits = i := by
  rw [wrap_u64 (by omega), show IntKind.u64.bits = 64 from rfl]; omega
 rw [hm, Int.one_mul, hc]
 rw [hc] at h1
 obtain ⟨n, rfl⟩ := Int.eq_ofNat_of_zero_le h0
 have hn : n < 2 ^ i := by omega
 rw [wrap_u64 (x := ((2 ^ i : Nat) : Int)) (by omega), show IntKind.u64.bits = 64 from rfl, BitVec.toNat_or, BitVec.toNat_ofInt, BitVec.toNat_ofInt]
 have e64 : ((2 ^ 64 : Nat) : Int) = 18446744073709551616 := by decide
 rw [Int.emod_eq_of_lt (by omega) (by omega), Int.emod_eq_of_lt (by omega) (by omega), Int.toNat_natCast, Int.toNat_natCast, Nat.or_comm]
 have h2 := Nat.two_pow_add_eq_or_of_lt hn 1
 rw [Nat.mul_one] at h2
 rw [← h2, wrap_u64 (by omega)]
 omega
theorem suppL_rg : ∀ (l : List Int) (i : Int), ∀ k ∈ suppL i l, i ≤ k ∧ k < i + l.length
 | [], i, k, h => by simp [suppL] at h
 | x :: l, i, k, h => by
  rw [suppL] at h
  have go : k ∈ suppL (i + 1) l → i ≤ k ∧ k < i + (x :: l).length := fun h => by
   have := suppL_rg l (i + 1) k h
   simp only [List.length_cons]
   omega
  cases hx : x == 0
  ·
   rw [hx, cond_false] at h
   rcases List.mem_cons.1 h with rfl | h
   ·
    simp only [List.length_cons]; omega
   ·
    exact go h
  ·
   rw [hx] at h
   exact go h
theorem suppL_up : ∀ (l : List Int) (i : Int), (suppL i l).Pairwise (· < ·)
 | [], i => List.Pairwise.nil
 | x :: l, i => by
  rw [suppL]
  cases x == 0
  ·
   refine List.pairwise_cons.2 ⟨fun k hk => ?_, suppL_up l (i + 1)⟩
   have := (suppL_rg l (i + 1) k hk).1
   omega
  ·
   exact suppL_up l (i + 1)
theorem semiflow_row_support.L0.law {α : Type} {N : Nat} (x3 : List Int) (k0 : Int → Option α) : ∀ (l : List Int) (j s : Int), l.Pairwise (· < ·) → (∀ k ∈ l, 0 ≤ k ∧ k < 64 ∧ s < 2 ^ k.toNat) → 0 ≤ s → semiflow_row_support.L0.l N x3 k0 l j s = k0 (l.foldl (fun s i => s + 2 ^ i.toNat) s)
 | [], j, s, _, _, _ => rfl
 | x :: l, j, s, hp, h, h0 => by
  obtain ⟨a1, a2, a3⟩ := h x (by simp)
  obtain ⟨i, rfl⟩ := Int.eq_ofNat_of_zero_le a1
  rw [Int.toNat_natCast] at a3
  have hw : decide ((0 : Int) ≤ IntKind.u64.wrap (i : Int)) = true := decide_eq_true (by rw [wrap_u64 (by omega)]; omega)
  rw [semiflow_row_support.L0.l, hw, cond_true, or_pow h0 a3 (by omega)]
  have hpos : (0 : Int) < 2 ^ i := Int.pow_pos (by decide)
  rw [semiflow_row_support.L0.law x3 k0 l _ _ (List.pairwise_cons.1 hp).2 (fun k hk => ?_) (by omega)]
  ·
   rfl
  ·
   have b1 := h k (by simp [hk])
   have b2 := (List.pairwise_cons.1 hp).1 k hk
   refine ⟨b1.1, b1.2.1, ?_⟩
   have b3 : (2 : Int) ^ (i + 1) ≤ 2 ^ k.toNat := by
    have := Nat.pow_le_pow_right (n := 2) (by decide) (show i + 1 ≤ k.toNat by omega)
    have e1 : ((2 : Int) ^ (i + 1)) = (((2 : Nat) ^ (i + 1) : Nat) : Int) := by simp
    have e2 : ((2 : Int) ^ k.toNat) = (((2 : Nat) ^ k.toNat : Nat) : Int) := by simp
    omega
   rw [Int.pow_succ] at b3
   omega
theorem semiflow_row_support.law {α : Type} {N : Nat} (hN : 18446744073709551616 ≤ N) (a0 : List Int × Int) (w0 : K.wf (.st (.pr (.sl (.int .i64)) (.int .i64))) a0) (hp : semiflow_row_support.pre a0 = true) (kr : (Int → Option α)) : semiflow_row_support.g N a0 kr = kr (semiflow_row_support.spec a0) := by
 unfold semiflow_row_support.g semiflow_row_support.spec
 simp only [semiflow_row_support.pre, bigL, Bool.and_eq_true, decide_eq_true_eq] at hp
 obtain ⟨⟨⟨h1, h2⟩, h3⟩, h4⟩ := hp
 have hlen : (List.drop (Int.toNat a0.2) a0.1).length ≤ 64 := by rw [List.length_drop]; omega
 have hpre : vector_Support.pre (List.drop (Int.toNat a0.2) a0.1) = true := by unfold vector_Support.pre bigL; exact decide_eq_true (by omega)
 rw [decide_eq_true h1, decide_eq_true h2, decide_eq_true (Int.le_refl _), hpre]
 simp only [Bool.and_self, cond_true]
 have hw : (vector_Support.spec (List.drop (Int.toNat a0.2) a0.1)).length ≤ maxLen := by
  unfold vector_Support.spec maxLen
  have : ∀ (l : List Int) (i : Int), (suppL i l).length ≤ l.length := fun l => by
   induction l with
   | nil => intro i; exact Nat.le_refl _
   | cons x l ih =>
    intro i
    have := ih (i + 1)
    rw [suppL]
    cases x == 0 <;> simp <;> omega
  have := this (List.drop (Int.toNat a0.2) a0.1) 0
  omega
 refine (semiflow_row_support.L0.rng (N := N) _ (hw) _ N 0 _ (by have := le_fuel (hw) hN; omega) (Nat.zero_le _)).trans ?_
 rw [List.drop_zero]
 refine (semiflow_row_support.L0.law (N := N) _ _ _ 0 0 (suppL_up _ 0) (fun k hk => ?_) (Int.le_refl _)).trans rfl
 have := suppL_rg _ 0 k hk
 exact ⟨this.1, by omega, Int.pow_pos (by decide)⟩
theorem semiflow_row_support.ok : FentOk P 91 semiflow_row_support.fent := fentOk_of (by kernel_rfl) fun ds hk => by
 obtain ⟨a0, l0, rfl, h0⟩ := ds_cons hk
 obtain rfl := ds0 h0
 exact ⟨semiflow_row_support.pre a0, [.dat (.int .u64) (semiflow_row_support.spec a0)], fun h hw => semiflow_row_support.calls 18446744073709551616 a0 (semiflow_row_support.law (Nat.le_refl _) a0 hw.1 h _), fun α k => rfl⟩
end Go.VI
namespace Go.VI
open Go Go.Proofs
namespace semiflow_minimal
def an65 : Ann := [(3, [0, 3, 15, 16, 17], [0, 3]), (9, [3, 6, 28, 29, 30], [6]), (12, [3, 6, 7, 8, 28, 29, 30, 35, 36, 37], [3, 6, 8, 28, 29, 30])]
def L0.sh : Sh := { sl := [(0, SV.a (SA.d ((K.int IntKind.i64).sl.pr (K.int IntKind.i64)).st.sl)), (3, SV.a (SA.fx (Atom.sl 0 0 none))), (15, SV.a (SA.d ((K.int IntKind.i64).sl.pr (K.int IntKind.i64)).st.sl)), (16, SV.a (SA.d (K.int IntKind.i64))), (17, SV.a (SA.d (K.int IntKind.i64)))], os := [(0, SO.row (K.int IntKind.u64) 0)], nx := 1 }
def L0.x0 : Sh := { sl := [(0, SV.a (SA.d ((K.int IntKind.i64).sl.pr (K.int IntKind.i64)).st.sl)), (3, SV.a (SA.fx (Atom.sl 0 0 none)))], os := [(0, SO.row (K.int IntKind.u64) 0)], nx := 1 }
def L0.st {α : Type} (N : Nat) (x1 : (List (List Int × Int))) (x2 : Int) (φ : (Int → (List Int) → Option α)) (x3 : Int) (x4 : (List Int)) (k0 : ((List Int) → Option α)) : Option α :=
 cond (decide (x3 < x2)) (cond (decide (0 ≤ x3) && decide (x3 < (↑x1.length : Int))) (cond (semiflow_row_support.pre (x1.getD x3.toNat ([], 0))) (cond (decide (0 ≤ x3) && decide (x3 < (↑x4.length : Int))) (φ (IntKind.i64.wrap (x3 + 1)) (x4.set (0 + x3.toNat) (semiflow_row_support.spec (x1.getD x3.toNat ([], 0))))) (none)) (none)) (none)) (k0 (x4))
def L0.f {α : Type} (N : Nat) (c1 : (List (List Int × Int))) (c2 : Int) : Nat → Int → (List Int) → ((List Int) → Option α) → Option α
 | 0, _, _, _ => none
 | n + 1, d0, d1, k0 => L0.st N c1 c2 (fun e0 e1 => L0.f N c1 c2 n e0 e1 k0) d0 d1 k0
def L0.up (d : L0.sh.T) (e0 : Int) (e1 : (List Int)) : L0.sh.T := ((d.1.1, ((), (d.1.2.2.1, (d.1.2.2.2.1, (e0, ()))))), (e1, ()))
def L0.k0 {α : Type} (d : L0.sh.T) (K : Cont α) : ((List Int) → Option α) := fun y0 => K (Exit.exit 0) (L0.x0.enc ((d.1.1, ((), ())), (y0, ())))
def L0.F {α : Type} (N : Nat) (d : L0.sh.T) (K : Cont α) : Option α := L0.f N d.1.2.2.1 d.1.2.2.2.1 N d.1.2.2.2.2.1 d.2.1 (L0.k0 d K)
def L1.sh : Sh := { sl := [(3, SV.a (SA.fx (Atom.sl 0 0 none))), (6, SV.a (SA.fx (Atom.sl 1 0 none))), (7, SV.a (SA.d (K.int IntKind.i64))), (8, SV.a (SA.fx (Atom.box 2 0))), (28, SV.a (SA.d ((K.int IntKind.i64).sl.pr (K.int IntKind.i64)).st.sl)), (29, SV.a (SA.d (K.int IntKind.i64))), (30, SV.a (SA.d (K.int IntKind.i64))), (35, SV.a (SA.fx (Atom.sl 0 0 none))), (36, SV.a (SA.d (K.int IntKind.i64))), (37, SV.a (SA.d (K.int IntKind.i64)))], os := [(0, SO.row (K.int IntKind.u64) 0), (1, SO.row ((K.int IntKind.i64).sl.pr (K.int IntKind.i64)).st 0), (2, SO.box [SA.d (K.int IntKind.i64).sl, SA.d (K.int IntKind.i64)])], nx := 3 }
def L1.x0 : Sh := { sl := [(3, SV.a (SA.fx (Atom.sl 0 0 none))), (6, SV.a (SA.fx (Atom.sl 1 0 none))), (8, SV.a (SA.fx (Atom.box 2 0))), (28, SV.a (SA.d ((K.int IntKind.i64).sl.pr (K.int IntKind.i64)).st.sl)), (29, SV.a (SA.d (K.int IntKind.i64))), (30, SV.a (SA.d (K.int IntKind.i64)))], os := [(0, SO.row (K.int IntKind.u64) 0), (1, SO.row ((K.int IntKind.i64).sl.pr (K.int IntKind.i64)).st 0), (2, SO.box [SA.d (K.int IntKind.i64).sl, SA.d (K.int IntKind.i64)])], nx := 3 }
def L1.x1 : Sh := { sl := [(3, SV.a (SA.fx (Atom.sl 0 0 none))), (6, SV.a (SA.fx (Atom.sl 1 0 none))), (8, SV.a (SA.fx (Atom.box 2 0))), (28, SV.a (SA.d ((K.int IntKind.i64).sl.pr (K.int IntKind.i64)).st.sl)), (29, SV.a (SA.d (K.int IntKind.i64))), (30, SV.a (SA.d (K.int IntKind.i64)))], os := [(0, SO.row (K.int IntKind.u64) 0), (1, SO.row ((K.int IntKind.i64).sl.pr (K.int IntKind.i64)).st 0), (2, SO.box [SA.d (K.int IntKind.i64).sl, SA.d (K.int IntKind.i64)])], nx := 3 }
def L1.st {α : Type} (N : Nat) (x11 : Int) (x15 : Int) (x17 : (List Int)) (φ : (Int → Option α)) (x16 : Int) (k0 : Option α) (k1 : Option α) : Option α :=
 cond (decide (x16 < x15)) (cond (decide (0 ≤ x16) && decide (x16 < (↑x17.length : Int))) (cond (decide (0 ≤ x11) && decide (x11 < (↑x17.length : Int))) (cond (IntKind.u64.wrap (↑(BitVec.ofInt IntKind.u64.bits (x17.getD (0 + x16.toNat) 0) &&& ~~~BitVec.ofInt IntKind.u64.bits (x17.getD (0 + x11.toNat) 0)).toNat : Int) == 0) (cond (decide (0 ≤ x11) && decide (x11 < (↑x17.length : Int))) (cond (x17.getD (0 + x16.toNat) 0 != x17.getD (0 + x11.toNat) 0) (k0 ) (cond (decide (x16 < x11)) (cond (decide (0 ≤ x11) && decide (x11 < (↑x17.length : Int))) (cond (x17.getD (0 + x16.toNat) 0 == x17.getD (0 + x11.toNat) 0) (k0 ) (φ (IntKind.i64.wrap (x16 + 1)))) (none)) (φ (IntKind.i64.wrap (x16 + 1))))) (none)) (cond (decide (x16 < x11)) (cond (decide (0 ≤ x11) && decide (x11 < (↑x17.length : Int))) (cond (x17.getD (0 + x16.toNat) 0 == x17.getD (0 + x11.toNat) 0) (k0 ) (φ (IntKind.i64.wrap (x16 + 1)))) (none)) (φ (IntKind.i64.wrap (x16 + 1))))) (none)) (none)) (k1 )
def L1.f {α : Type} (N : Nat) (c0 : Int) (c4 : Int) (c5 : (List Int)) : Nat → Int → Option α → Option α → Option α
 | 0, _, _, _ => none
 | n + 1, d0, k0, k1 => L1.st N c0 c4 c5 (fun e0 => L1.f N c0 c4 c5 n e0 k0 k1) d0 k0 k1
def L1.up (d : L1.sh.T) (e0 : Int) : L1.sh.T := (((), ((), (d.1.2.2.1, ((), (d.1.2.2.2.2.1, (d.1.2.2.2.2.2.1, (d.1.2.2.2.2.2.2.1, ((), (d.1.2.2.2.2.2.2.2.2.1, (e0, ())))))))))), (d.2.1, (d.2.2.1, ((d.2.2.2.1.1, (d.2.2.2.1.2.1, ())), ()))))
def L1.k0 {α : Type} (d : L1.sh.T) (K : Cont α) : Option α := K (Exit.exit 3) (L1.x0.enc (((), ((), ((), (d.1.2.2.2.2.1, (d.1.2.2.2.2.2.1, (d.1.2.2.2.2.2.2.1, ())))))), (d.2.1, (d.2.2.1, ((d.2.2.2.1.1, (d.2.2.2.1.2.1, ())), ())))))
def L1.k1 {α : Type} (d : L1.sh.T) (K : Cont α) : Option α := K (Exit.exit 4) (L1.x1.enc (((), ((), ((), (d.1.2.2.2.2.1, (d.1.2.2.2.2.2.1, (d.1.2.2.2.2.2.2.1, ())))))), (d.2.1, (d.2.2.1, ((d.2.2.2.1.1, (d.2.2.2.1.2.1, ())), ())))))
def L1.F {α : Type} (N : Nat) (d : L1.sh.T) (K : Cont α) : Option α := L1.f N d.1.2.2.1 d.1.2.2.2.2.2.2.2.2.1 d.2.1 N d.1.2.2.2.2.2.2.2.2.2.1 (L1.k0 d K) (L1.k1 d K)
def L2.sh : Sh := { sl := [(3, SV.a (SA.fx (Atom.sl 0 0 none))), (6, SV.a (SA.fx (Atom.sl 1 0 none))), (28, SV.a (SA.d ((K.int IntKind.i64).sl.pr (K.int IntKind.i64)).st.sl)), (29, SV.a (SA.d (K.int IntKind.i64))), (30, SV.a (SA.d (K.int IntKind.i64)))], os := [(0, SO.row (K.int IntKind.u64) 0), (1, SO.row ((K.int IntKind.i64).sl.pr (K.int IntKind.i64)).st 0)], nx := 2 }
def L2.x0 : Sh := { sl := [(6, SV.a (SA.fx (Atom.sl 0 0 none)))], os := [(0, SO.row ((K.int IntKind.i64).sl.pr (K.int IntKind.i64)).st 0)], nx := 1 }
def L2.st {α : Type} (N : Nat) (x6 : (List (List Int × Int))) (x7 : Int) (x9 : (List Int)) (φ : (Int → (List (List Int × Int)) → Option α)) (x8 : Int) (x10 : (List (List Int × Int))) (k0 : ((List (List Int × Int)) → Option α)) : Option α :=
 cond (decide (x8 < x7)) (cond (decide (0 ≤ x8) && decide (x8 < (↑x6.length : Int))) (L1.f N (x8) ((↑x9.length : Int)) (x9) N (0) (φ (IntKind.i64.wrap (x8 + 1)) (x10)) (cond ((x10.length + 1).ble mxl) (φ (IntKind.i64.wrap (x8 + 1)) (x10 ++ [x6.getD x8.toNat ([], 0)])) (none))) (none)) (k0 (x10))
def L2.f {α : Type} (N : Nat) (c0 : (List (List Int × Int))) (c1 : Int) (c2 : (List Int)) : Nat → Int → (List (List Int × Int)) → ((List (List Int × Int)) → Option α) → Option α
 | 0, _, _, _ => none
 | n + 1, d0, d1, k0 => L2.st N c0 c1 c2 (fun e0 e1 => L2.f N c0 c1 c2 n e0 e1 k0) d0 d1 k0
def L2.up (d : L2.sh.T) (e0 : Int) (e1 : (List (List Int × Int))) : L2.sh.T := (((), ((), (d.1.2.2.1, (d.1.2.2.2.1, (e0, ()))))), (d.2.1, (e1, ())))
def L2.k0 {α : Type} (d : L2.sh.T) (K : Cont α) : ((List (List Int × Int)) → Option α) := fun y0 => K (Exit.exit 2) (L2.x0.enc (((), ()), (y0, ())))
def L2.F {α : Type} (N : Nat) (d : L2.sh.T) (K : Cont α) : Option α := L2.f N d.1.2.2.1 d.1.2.2.2.1 d.2.1 N d.1.2.2.2.2.1 d.2.2.1 (L2.k0 d K)
def ents65 {α : Type} (N : Nat) : List (SmE α) := [⟨0, 50, 3, [⟨L0.sh, L0.F N⟩]⟩, ⟨0, 50, 12, [⟨L1.sh, L1.F N⟩]⟩, ⟨0, 50, 9, [⟨L2.sh, L2.F N⟩]⟩]
def C (N : Nat) : Ctx := ⟨tys, [(91, semiflow_row_support.fent)], [], N⟩
def L0.B {α : Type} (N : Nat) : Env → Cont α → Option α := evC tys 78 0 (evCall (C N) 50) (evCallQ (C N)) N an65 (smL (ents65 N) 0 50) (loopOf 3 Try.f65)
theorem L0.r {α : Type} (N : Nat) (φ : Env → Option α) (K : Cont α) (d : L0.sh.T) : L0.B N (L0.sh.enc d) (contL φ K (Env.norm 0 [0, 3, 15, 16, 17]) (Env.norm 0 [0, 3])) = L0.st N d.1.2.2.1 d.1.2.2.2.1 (fun e0 e1 => φ (L0.sh.enc (L0.up d e0 e1))) d.1.2.2.2.2.1 d.2.1 (L0.k0 d K) := by kernel_rfl
theorem L0.e {α : Type} (N : Nat) : ∀ (n : Nat) (d : L0.sh.T) (K : Cont α), evL (L0.B N) (Env.norm 0 [0, 3, 15, 16, 17]) (Env.norm 0 [0, 3]) n (L0.sh.enc d) K = L0.f N d.1.2.2.1 d.1.2.2.2.1 n d.1.2.2.2.2.1 d.2.1 (L0.k0 d K)
 | 0, d, K => rfl
 | n + 1, d, K => evL_contL.trans ((L0.r N _ K d).trans (congrArg (fun φ => L0.st N d.1.2.2.1 d.1.2.2.2.1 φ d.1.2.2.2.2.1 d.2.1 (L0.k0 d K)) (funext fun e0 => funext fun e1 => L0.e N n (L0.up d e0 e1) K)))
def L1.B {α : Type} (N : Nat) : Env → Cont α → Option α := evC tys 78 0 (evCall (C N) 50) (evCallQ (C N)) N an65 (smL (ents65 N) 0 50) (loopOf 12 Try.f65)
theorem L1.r {α : Type} (N : Nat) (φ : Env → Option α) (K : Cont α) (d : L1.sh.T) : L1.B N (L1.sh.enc d) (contL φ K (Env.norm 0 [3, 6, 7, 8, 28, 29, 30, 35, 36, 37]) (Env.norm 0 [3, 6, 8, 28, 29, 30])) = L1.st N d.1.2.2.1 d.1.2.2.2.2.2.2.2.2.1 d.2.1 (fun e0 => φ (L1.sh.enc (L1.up d e0))) d.1.2.2.2.2.2.2.2.2.2.1 (L1.k0 d K) (L1.k1 d K) := by kernel_rfl
theorem L1.e {α : Type} (N : Nat) : ∀ (n : Nat) (d : L1.sh.T) (K : Cont α), evL (L1.B N) (Env.norm 0 [3, 6, 7, 8, 28, 29, 30, 35, 36, 37]) (Env.norm 0 [3, 6, 8, 28, 29, 30]) n (L1.sh.enc d) K = L1.f N d.1.2.2.1 d.1.2.2.2.2.2.2.2.2.1 d.2.1 n d.1.2.2.2.2.2.2.2.2.2.1 (L1.k0 d K) (L1.k1 d K)
 | 0, d, K => rfl
 | n + 1, d, K => evL_contL.trans ((L1.r N _ K d).trans (congrArg (fun φ => L1.st N d.1.2.2.1 d.1.2.2.2.2.2.2.2.2.1 d.2.1 φ d.1.2.2.2.2.2.2.2.2.2.1 (L1.k0 d K) (L1.k1 d K)) (funext fun e0 => L1.e N n (L1.up d e0) K)))
def L2.B {α : Type} (N : Nat) : Env → Cont α → Option α := evC tys 78 0 (evCall (C N) 50) (evCallQ (C N)) N an65 (smL (ents65 N) 0 50) (loopOf 9 Try.f65)
theorem L2.r {α : Type} (N : Nat) (φ : Env → Option α) (K : Cont α) (d : L2.sh.T) : L2.B N (L2.sh.enc d) (contL φ K (Env.norm 0 [3, 6, 28, 29, 30]) (Env.norm 0 [6])) = L2.st N d.1.2.2.1 d.1.2.2.2.1 d.2.1 (fun e0 e1 => φ (L2.sh.enc (L2.up d e0 e1))) d.1.2.2.2.2.1 d.2.2.1 (L2.k0 d K) := by kernel_rfl
theorem L2.e {α : Type} (N : Nat) : ∀ (n : Nat) (d : L2.sh.T) (K : Cont α), evL (L2.B N) (Env.norm 0 [3, 6, 28, 29, 30]) (Env.norm 0 [6]) n (L2.sh.enc d) K = L2.f N d.1.2.2.1 d.1.2.2.2.1 d.2.1 n d.1.2.2.2.2.1 d.2.2.1 (L2.k0 d K)
 | 0, d, K => rfl
 | n + 1, d, K => evL_contL.trans ((L2.r N _ K d).trans (congrArg (fun φ => L2.st N d.1.2.2.1 d.1.2.2.2.1 d.2.1 φ d.1.2.2.2.2.1 d.2.2.1 (L2.k0 d K)) (funext fun e0 => funext fun e1 => L2.e N n (L2.up d e0 e1) K)))
theorem ents65_ok {α : Type} (N : Nat) : AllP (EntOk (C N) Try.f65 an65 (ents65 (α := α) N)) (ents65 N) := ⟨entOk_of (b0 := loopOf 3 Try.f65) (li0 := [0, 3, 15, 16, 17]) (lx0 := [0, 3]) (by kernel_rfl) (by kernel_rfl) ⟨fun d K => L0.e N N d K, trivial⟩, entOk_of (b0 := loopOf 12 Try.f65) (li0 := [3, 6, 7, 8, 28, 29, 30, 35, 36, 37]) (lx0 := [3, 6, 8, 28, 29, 30]) (by kernel_rfl) (by kernel_rfl) ⟨fun d K => L1.e N N d K, trivial⟩, entOk_of (b0 := loopOf 9 Try.f65) (li0 := [3, 6, 28, 29, 30]) (lx0 := [6]) (by kernel_rfl) (by kernel_rfl) ⟨fun d K => L2.e N N d K, trivial⟩, trivial⟩
def g {α : Type} (N : Nat) (a0 : List (List Int × Int)) (kr : ((List (List Int × Int)) → Option α)) : Option α :=
 cond (decide (0 ≤ (↑a0.length : Int)) && decide ((↑a0.length : Int) ≤ (↑a0.length : Int)) && decide ((↑a0.length : Int) ≤ 1073741824)) (L0.f N (a0) ((↑a0.length : Int)) N (0) (List.replicate (↑a0.length : Int).toNat (0 : Int)) (fun x5 => L2.f N (a0) ((↑a0.length : Int)) (x5) N (0) ([]) (fun x21 => kr (x21)))) (none)
theorem eq (N : Nat) (a0 : List (List Int × Int)) : evF (C N) 50 Try.f65 an65 (smL (ents65 N) 0 50) [(((.st (.pr (.sl (.int .i64)) (.int .i64))) : K), true)] [⟨.sl (.st (.pr (.sl (.int .i64)) (.int .i64))), a0⟩] = g N a0 (fun r0 => some [.own (((K.int IntKind.i64).sl.pr (K.int IntKind.i64)).st) r0]) := by kernel_rfl
theorem ctxOk (N : Nat) : CtxOk P (C N) := ctxOk_of tysOk mixedOk ⟨semiflow_row_support.ok, trivial⟩ trivial
theorem calls (N : Nat) (a0 : List (List Int × Int)) {rs : List Rs} (h : g N a0 (fun r0 => some [.own (((K.int IntKind.i64).sl.pr (K.int IntKind.i64)).st) r0]) = some rs) : CallsTo P 65 [⟨.sl (.st (.pr (.sl (.int .i64)) (.int .i64))), a0⟩] rs := evF_calls' (ctxOk N) (by rfl) (ents65_ok N) ((eq N a0).trans h)
def L0.l {α : Type} (N : Nat) (x1 : (List (List Int × Int))) (k0 : ((List Int) → Option α)) : List (List Int × Int) → Int → (List Int) → Option α
 | [], x3, x4 => k0 (x4)
 | x :: l, x3, x4 => (cond (semiflow_row_support.pre x) (cond (decide (0 ≤ x3) && decide (x3 < (↑x4.length : Int))) (L0.l N x1 k0 l (x3 + 1) (x4.set (0 + x3.toNat) (semiflow_row_support.spec x))) (none)) (none))
theorem L0.rng {α : Type} {N : Nat} (x1 : (List (List Int × Int))) (hl : x1.length ≤ maxLen) (k0 : ((List Int) → Option α)) : ∀ (n j : Nat) (x4 : (List Int)), x1.length < n + j → j ≤ x1.length → L0.f N x1 (x1.length : Int) n (j : Int) x4 k0 = L0.l N x1 k0 (x1.drop j) (j : Int) x4 :=
 rng1 x1 hl (fun n i x4 => L0.f N x1 (x1.length : Int) n i x4 k0) (fun l i x4 => L0.l N x1 k0 l i x4) (fun n j hj h ih x4 => by simp only [L0.f, L0.st, L0.l, h.a, h.b, h.c, h.d, h.e, Bool.true_and, Bool.and_true, Bool.and_self, cond_true, ih] <;> rfl) (fun n j h x4 => by simp only [L0.f, L0.st, L0.l, h, cond_false])
def L1.l {α : Type} (N : Nat) (x11 : Int) (x17 : (List Int)) (k0 : Option α) (k1 : Option α) : List Int → Int → Option α
 | [], x16 => k1 
 | x :: l, x16 => (cond (decide (0 ≤ x11) && decide (x11 < (↑x17.length : Int))) (cond (IntKind.u64.wrap (↑(BitVec.ofInt IntKind.u64.bits x &&& ~~~BitVec.ofInt IntKind.u64.bits (x17.getD (0 + x11.toNat) 0)).toNat : Int) == 0) (cond (decide (0 ≤ x11) && decide (x11 < (↑x17.length : Int))) (cond (x != x17.getD (0 + x11.toNat) 0) (k0 ) (cond (decide (x16 < x11)) (cond (decide (0 ≤ x11) && decide (x11 < (↑x17.length : Int))) (cond (x == x17.getD (0 + x11.toNat) 0) (k0 ) (L1.l N x11 x17 k0 k1 l (x16 + 1))) (none)) (L1.l N x11 x17 k0 k1 l (x16 + 1)))) (none)) (cond (decide (x16 < x11)) (cond (decide (0 ≤ x11) && decide (x11 < (↑x17.length : Int))) (cond (x == x17.getD (0 + x11.toNat) 0) (k0 ) (L1.l N x11 x17 k0 k1 l (x16 + 1))) (none)) (L1.l N x11 x17 k0 k1 l (x16 + 1)))) (none))
theorem L1.rng {α : Type} {N : Nat} (x11 : Int) (x17 : (List Int)) (hl : x17.length ≤ maxLen) (k0 : Option α) (k1 : Option α) : ∀ (n j : Nat), x17.length < n + j → j ≤ x17.length → L1.f N x11 (x17.length : Int) x17 n (j : Int) k0 k1 = L1.l N x11 x17 k0 k1 (x17.drop j) (j : Int) :=
 rng0 x17 hl (fun n i => L1.f N x11 (x17.length : Int) x17 n i k0 k1) (fun l i => L1.l N x11 x17 k0 k1 l i) (fun n j hj h ih => by simp only [L1.f, L1.st, L1.l, h.a, h.b, h.c, h.d, h.e, Bool.true_and, Bool.and_true, Bool.and_self, cond_true, ih] <;> rfl) (fun n j h => by simp only [L1.f, L1.st, L1.l, h, cond_false])
def L2.l {α : Type} (N : Nat) (x6 : (List (List Int × Int))) (x9 : (List Int)) (k0 : ((List (List Int × Int)) → Option α)) : List (List Int × Int) → Int → (List (List Int × Int)) → Option α
 | [], x8, x10 => k0 (x10)
 | x :: l, x8, x10 => (L1.f N (x8) ((↑x9.length : Int)) (x9) N (0) (L2.l N x6 x9 k0 l (x8 + 1) (x10)) (cond ((x10.length + 1).ble mxl) (L2.l N x6 x9 k0 l (x8 + 1) (x10 ++ [x])) (none)))
theorem L2.rng {α : Type} {N : Nat} (x6 : (List (List Int × Int))) (x9 : (List Int)) (hl : x6.length ≤ maxLen) (k0 : ((List (List Int × Int)) → Option α)) : ∀ (n j : Nat) (x10 : (List (List Int × Int))), x6.length < n + j → j ≤ x6.length → L2.f N x6 (x6.length : Int) x9 n (j : Int) x10 k0 = L2.l N x6 x9 k0 (x6.drop j) (j : Int) x10 :=
 rng1 x6 hl (fun n i x10 => L2.f N x6 (x6.length : Int) x9 n i x10 k0) (fun l i x10 => L2.l N x6 x9 k0 l i x10) (fun n j hj h ih x10 => by simp only [L2.f, L2.st, L2.l, h.a, h.b, h.c, h.d, h.e, Bool.true_and, Bool.and_true, Bool.and_self, cond_true, ih] <;> rfl) (fun n j h x10 => by simp only [L2.f, L2.st, L2.l, h, cond_false])
end semiflow_minimal
theorem semiflow_minimal.L0.law {α : Type} {N : Nat} (x1 : List RowT) (k0 : List Int → Option α) : ∀ (l : List RowT) (j : Nat) (pre : List Int), pre.length = j → (∀ r ∈ l, semiflow_row_support.pre r = true) →
  semiflow_minimal.L0.l N x1 k0 l (j : Int) (pre ++ List.replicate l.length 0) = k0 (pre ++ l.map fun r => suppB (rowX r))
 | [], j, pre, _, _ => by simp [semiflow_minimal.L0.l]
 | x :: l, j, pre, hp, h => by
  have e1 : decide ((j : Int) < ((pre ++ List.replicate (x :: l).length (0 : Int)).length : Int)) = true := d_lt (by simp; omega)
  rw [semiflow_minimal.L0.l, h x (by simp), d_0, e1]
  simp only [Bool.and_self, cond_true, Nat.zero_add, Int.toNat_natCast, List.length_cons, List.replicate_succ]
  rw [set_mid pre _ 0 _ hp, ← succ_cast]
  have ih := semiflow_minimal.L0.law (N := N) x1 k0 l (j + 1) (pre ++ [semiflow_row_support.spec x]) (by simp [hp]) (fun r hr => h r (by simp [hr]))
  simp only [List.append_assoc, List.singleton_append] at ih
  rw [ih]
  simp [semiflow_row_support.spec]
theorem semiflow_minimal.L1.law {α : Type} {N : Nat} (i : Nat) (sets : List Int) (hi : i < sets.length) (k0 k1 : Option α) : ∀ (l : List Int) (j : Int), semiflow_minimal.L1.l N (i : Int) sets k0 k1 l j = cond (dropG sets[i] (i : Int) j l) k0 k1
 | [], j => rfl
 | x :: l, j => by
  have ih := semiflow_minimal.L1.law (N := N) i sets hi k0 k1 l (j + 1)
  rw [semiflow_minimal.L1.l, d_0, d_lt hi, Nat.zero_add, getD_at hi, ih, dropG]
  unfold subU
  simp only [Bool.and_self, cond_true, bne]
  cases (IntKind.u64.wrap (((BitVec.ofInt IntKind.u64.bits x &&& ~~~BitVec.ofInt IntKind.u64.bits sets[i]).toNat : Nat) : Int) == 0)
  ·
   cases decide (j < (i : Int))
   ·
    rfl
   ·
    cases x == sets[i] <;> rfl
  ·
   cases x == sets[i]
   ·
    rfl
   ·
    cases decide (j < (i : Int)) <;> rfl
theorem semiflow_minimal.L2.law {α : Type} {N : Nat} (hN : 18446744073709551616 ≤ N) (x6 : List RowT) (sets : List Int) (hs : sets.length ≤ maxLen) (k0 : List RowT → Option α) : ∀ (l : List RowT) (i : Nat) (acc : List RowT), l.map (fun r => suppB (rowX r)) = sets.drop i → acc.length + l.length ≤ 1073741824 →
  semiflow_minimal.L2.l N x6 sets k0 l (i : Int) acc = k0 (acc ++ minG sets (i : Int) l)
 | [], i, acc, _, _ => by simp [semiflow_minimal.L2.l, minG]
 | x :: l, i, acc, he, h => by
  simp only [List.length_cons] at h
  obtain ⟨hi, hx, hl⟩ := drop_step (l := l.map fun r => suppB (rowX r)) (x := suppB (rowX x)) (by simpa using he)
  rw [semiflow_minimal.L2.l, minG]
  refine (semiflow_minimal.L1.rng (N := N) _ sets hs _ _ N 0 (by have := le_fuel hs hN; omega) (Nat.zero_le _)).trans ?_
  rw [List.drop_zero, semiflow_minimal.L1.law i sets hi, hx, ← succ_cast]
  rw [show ((acc.length + 1).ble mxl) = true from ble1 _ (by omega), cond_true]
  rw [semiflow_minimal.L2.law hN x6 sets hs k0 l (i + 1) _ hl (by omega), semiflow_minimal.L2.law hN x6 sets hs k0 l (i + 1) _ hl (by simp; omega)]
  cases dropG (suppB (rowX x)) (i : Int) ((0 : Nat) : Int) sets
  ·
   simp
  ·
   rfl
theorem semiflow_minimal.law {α : Type} {N : Nat} (hN : 18446744073709551616 ≤ N) (a0 : List (List Int × Int)) (w0 : K.wf (.sl (.st (.pr (.sl (.int .i64)) (.int .i64)))) a0) (hp : semiflow_minimal.pre a0 = true) (kr : ((List (List Int × Int)) → Option α)) : semiflow_minimal.g N a0 kr = kr (semiflow_minimal.spec a0) := by
 unfold semiflow_minimal.g semiflow_minimal.spec minimalS
 simp only [semiflow_minimal.pre, bigL, Bool.and_eq_true, decide_eq_true_eq, List.all_eq_true] at hp
 have e1 : decide ((a0.length : Int) ≤ 1073741824) = true := decide_eq_true (by omega)
 simp only [d_0, e1, Int.le_refl, decide_true, Bool.and_self, cond_true, Int.toNat_natCast]
 refine (semiflow_minimal.L0.rng (N := N) _ (w0.1) _ N 0 _ (by have := le_fuel (w0.1) hN; omega) (Nat.zero_le _)).trans ?_
 rw [List.drop_zero]
 refine (semiflow_minimal.L0.law (N := N) a0 _ a0 0 [] rfl hp.2).trans ?_
 rw [List.nil_append]
 refine (semiflow_minimal.L2.rng (N := N) _ _ (w0.1) _ N 0 _ (by have := le_fuel (w0.1) hN; omega) (Nat.zero_le _)).trans ?_
 rw [List.drop_zero]
 refine (semiflow_minimal.L2.law (N := N) hN a0 _ (by rw [List.length_map]; exact w0.1) _ a0 0 [] rfl (by simp; omega)).trans ?_
 rfl
theorem semiflow_minimal.ok : FentOk P 65 semiflow_minimal.fent := fentOk_of (by kernel_rfl) fun ds hk => by
 obtain ⟨a0, l0, rfl, h0⟩ := ds_cons hk
 obtain rfl := ds0 h0
 exact ⟨semiflow_minimal.pre a0, [.own (.st (.pr (.sl (.int .i64)) (.int .i64))) (semiflow_minimal.spec a0)], fun h hw => semiflow_minimal.calls 18446744073709551616 a0 (semiflow_minimal.law (Nat.le_refl _) a0 hw.1 h _), fun α k => rfl⟩
end Go.VI
namespace Go.VI
open Go Go.Proofs
namespace safeint_Add
def an78 : Ann := []
def ents78 {α : Type} (N : Nat) : List (SmE α) := []
def C (N : Nat) : Ctx := ⟨tys, [], [], N⟩
theorem ents78_ok {α : Type} (N : Nat) : AllP (EntOk (C N) Try.f78 an78 (ents78 (α := α) N)) (ents78 N) := trivial
def g {α : Type} (N : Nat) (a0 : Int) (a1 : Int) (kr : (Int → Bool → Option α)) : Option α :=
 cond (decide (0 < a1)) (cond (decide (IntKind.i64.wrap (9223372036854775807 - a1) < a0)) (kr (0) (false)) (cond (decide (a1 < 0)) (cond (decide (a0 < IntKind.i64.wrap (-9223372036854775808 - a1))) (kr (0) (false)) (kr (IntKind.i64.wrap (a0 + a1)) (true))) (kr (IntKind.i64.wrap (a0 + a1)) (true)))) (cond (decide (a1 < 0)) (cond (decide (a0 < IntKind.i64.wrap (-9223372036854775808 - a1))) (kr (0) (false)) (kr (IntKind.i64.wrap (a0 + a1)) (true))) (kr (IntKind.i64.wrap (a0 + a1)) (true)))
theorem eq (N : Nat) (a0 : Int) (a1 : Int) : evF (C N) 50 Try.f78 an78 (smL (ents78 N) 0 50) [((.int .i64 : K), false), ((.bool : K), false)] [⟨.int .i64, a0⟩, ⟨.int .i64, a1⟩] = g N a0 a1 (fun r0 r1 => some [.dat (K.int IntKind.i64) r0, .dat (K.bool) r1]) := by kernel_rfl
theorem ctxOk (N : Nat) : CtxOk P (C N) := ctxOk_of tysOk mixedOk trivial trivial
theorem calls (N : Nat) (a0 : Int) (a1 : Int) {rs : List Rs} (h : g N a0 a1 (fun r0 r1 => some [.dat (K.int IntKind.i64) r0, .dat (K.bool) r1]) = some rs) : CallsTo P 78 [⟨.int .i64, a0⟩, ⟨.int .i64, a1⟩] rs := evF_calls' (ctxOk N) (by rfl) (ents78_ok N) ((eq N a0 a1).trans h)
end safeint_Add
theorem inI64_iff {x : Int} : inI64 x = true ↔ -9223372036854775808 ≤ x ∧ x ≤ 9223372036854775807 := by simp [inI64]
theorem chk_t {x : Int} (h : -9223372036854775808 ≤ x ∧ x ≤ 9223372036854775807) : chk x = (x, true) := by
 unfold chk
 rw [inI64_iff.2 h]
 rfl
theorem chk_f {x : Int} (h : ¬ (-9223372036854775808 ≤ x ∧ x ≤ 9223372036854775807)) : chk x = (0, false) := by
 unfold chk
 cases hb : inI64 x
 ·
  rfl
 ·
  exact absurd (inI64_iff.1 hb) h
theorem safeint_Add.law {α : Type} {N : Nat} (hN : 18446744073709551616 ≤ N) (a0 : Int) (a1 : Int) (w0 : K.wf (.int .i64) a0) (w1 : K.wf (.int .i64) a1) (kr : (Int → Bool → Option α)) : safeint_Add.g N a0 a1 kr = kr (safeint_Add.spec a0 a1).1 (safeint_Add.spec a0 a1).2 := by
 obtain ⟨h1, h2⟩ := inI_i64.1 w0
 obtain ⟨h3, h4⟩ := inI_i64.1 w1
 unfold safeint_Add.g safeint_Add.spec
 by_cases hp : 0 < a1
 ·
  have e1 : decide (0 < a1) = true := decide_eq_true hp
  have e2 : IntKind.i64.wrap (9223372036854775807 - a1) = 9223372036854775807 - a1 := wrap_i64 (inI_i64.2 (by omega))
  have e3 : decide (a1 < 0) = false := decide_eq_false (by omega)
  by_cases h : 9223372036854775807 - a1 < a0
  ·
   rw [chk_f (by omega)]
   simp only [e1, e2, decide_eq_true h, cond_true]
  ·
   rw [chk_t (by omega)]
   simp only [e1, e2, e3, decide_eq_false h, cond_true, cond_false]
   rw [wrap_i64 (inI_i64.2 (by omega))]
 ·
  have e1 : decide (0 < a1) = false := decide_eq_false hp
  by_cases hn : a1 < 0
  ·
   have e2 : IntKind.i64.wrap (-9223372036854775808 - a1) = -9223372036854775808 - a1 := wrap_i64 (inI_i64.2 (by omega))
   by_cases h : a0 < -9223372036854775808 - a1
   ·
    rw [chk_f (by omega)]
    simp only [e1, e2, decide_eq_true hn, decide_eq_true h, cond_true, cond_false]
   ·
    rw [chk_t (by omega)]
    simp only [e1, e2, decide_eq_true hn, decide_eq_false h, cond_true, cond_false]
    rw [wrap_i64 (inI_i64.2 (by omega))]
  ·
   rw [chk_t (by omega)]
   simp only [e1, decide_eq_false hn, cond_false]
   rw [wrap_i64 (inI_i64.2 (by omega))]
theorem safeint_Add.ok : FentOk P 78 safeint_Add.fent := fentOk_of (by kernel_rfl) fun ds hk => by
 obtain ⟨a0, l0, rfl, h0⟩ := ds_cons hk
 obtain ⟨a1, l1, rfl, h1⟩ := ds_cons h0
 obtain rfl := ds0 h1
 exact ⟨true, [.dat (.int .i64) (safeint_Add.spec a0 a1).1, .dat (.bool) (safeint_Add.spec a0 a1).2], fun h hw => safeint_Add.calls 18446744073709551616 a0 a1 (safeint_Add.law (Nat.le_refl _) a0 a1 hw.1 hw.2.1 _), fun α k => rfl⟩
end Go.VI
namespace Go.VI
open Go Go.Proofs
namespace safeint_times
def an110 : Ann := []
def ents110 {α : Type} (N : Nat) : List (SmE α) := []
def C (N : Nat) : Ctx := ⟨tys, [], [], N⟩
theorem ents110_ok {α : Type} (N : Nat) : AllP (EntOk (C N) Try.f110 an110 (ents110 (α := α) N)) (ents110 N) := trivial
def g {α : Type} (N : Nat) (a0 : Int) (a1 : Int) (kr : ((Int × Int) → Option α)) : Option α :=
 kr ((IntKind.u64.wrap (IntKind.u64.wrap (IntKind.u64.wrap (a0.fdiv (2 ^ min (Int.toNat 32) IntKind.u64.bits) * a1.fdiv (2 ^ min (Int.toNat 32) IntKind.u64.bits)) + (IntKind.u64.wrap (IntKind.u64.wrap (a0.fdiv (2 ^ min (Int.toNat 32) IntKind.u64.bits) * IntKind.u64.wrap (↑(BitVec.ofInt IntKind.u64.bits a1 &&& BitVec.ofInt IntKind.u64.bits 4294967295).toNat : Int)) + (IntKind.u64.wrap (IntKind.u64.wrap (↑(BitVec.ofInt IntKind.u64.bits a0 &&& BitVec.ofInt IntKind.u64.bits 4294967295).toNat : Int) * IntKind.u64.wrap (↑(BitVec.ofInt IntKind.u64.bits a1 &&& BitVec.ofInt IntKind.u64.bits 4294967295).toNat : Int))).fdiv (2 ^ min (Int.toNat 32) IntKind.u64.bits))).fdiv (2 ^ min (Int.toNat 32) IntKind.u64.bits)) + (IntKind.u64.wrap (IntKind.u64.wrap (IntKind.u64.wrap (↑(BitVec.ofInt IntKind.u64.bits a0 &&& BitVec.ofInt IntKind.u64.bits 4294967295).toNat : Int) * a1.fdiv (2 ^ min (Int.toNat 32) IntKind.u64.bits)) + IntKind.u64.wrap (↑(BitVec.ofInt IntKind.u64.bits (IntKind.u64.wrap (IntKind.u64.wrap (a0.fdiv (2 ^ min (Int.toNat 32) IntKind.u64.bits) * IntKind.u64.wrap (↑(BitVec.ofInt IntKind.u64.bits a1 &&& BitVec.ofInt IntKind.u64.bits 4294967295).toNat : Int)) + (IntKind.u64.wrap (IntKind.u64.wrap (↑(BitVec.ofInt IntKind.u64.bits a0 &&& BitVec.ofInt IntKind.u64.bits 4294967295).toNat : Int) * IntKind.u64.wrap (↑(BitVec.ofInt IntKind.u64.bits a1 &&& BitVec.ofInt IntKind.u64.bits 4294967295).toNat : Int))).fdiv (2 ^ min (Int.toNat 32) IntKind.u64.bits))) &&& BitVec.ofInt IntKind.u64.bits 4294967295).toNat : Int))).fdiv (2 ^ min (Int.toNat 32) IntKind.u64.bits)), IntKind.u64.wrap (a0 * a1)))
theorem eq (N : Nat) (a0 : Int) (a1 : Int) : evF (C N) 50 Try.f110 an110 (smL (ents110 N) 0 50) [((.st (.pr (.int .u64) (.int .u64)) : K), false)] [⟨.int .u64, a0⟩, ⟨.int .u64, a1⟩] = g N a0 a1 (fun r0 => some [.dat (((K.int IntKind.u64).pr (K.int IntKind.u64)).st) r0]) := by kernel_rfl
theorem ctxOk (N : Nat) : CtxOk P (C N) := ctxOk_of tysOk mixedOk trivial trivial
theorem calls (N : Nat) (a0 : Int) (a1 : Int) {rs : List Rs} (h : g N a0 a1 (fun r0 => some [.dat (((K.int IntKind.u64).pr (K.int IntKind.u64)).st) r0]) = some rs) : CallsTo P 110 [⟨.int .u64, a0⟩, ⟨.int .u64, a1⟩] rs := evF_calls' (ctxOk N) (by rfl) (ents110_ok N) ((eq N a0 a1).trans h)
end safeint_times
theorem mul_le_low {a b : Int} (ha : 0 ≤ a) (ha' : a ≤ 4294967295) (hb : 0 ≤ b) (hb' : b ≤ 4294967295) : 0 ≤ a * b ∧ a * b ≤ 18446744065119617025 := by
 refine ⟨Int.mul_nonneg ha hb, ?_⟩
 exact Int.le_trans (Int.mul_le_mul ha' hb' hb (by decide)) (by decide)
theorem halves {x y x1 x0 y1 y0 : Int} (ex : x = 4294967296 * x1 + x0) (ey : y = 4294967296 * y1 + y0) : x * y = 18446744073709551616 * (x1 * y1) + 4294967296 * (x1 * y0) + 4294967296 * (x0 * y1) + x0 * y0 := by
 rw [ex, ey]
 simp only [Int.add_mul, Int.mul_add]
 have a1 : 4294967296 * x1 * (4294967296 * y1) = 18446744073709551616 * (x1 * y1) := by
  rw [show (18446744073709551616 : Int) = 4294967296 * 4294967296 from rfl]; ac_rfl
 have a2 : 4294967296 * x1 * y0 = 4294967296 * (x1 * y0) := by ac_rfl
 have a3 : x0 * (4294967296 * y1) = 4294967296 * (x0 * y1) := by ac_rfl
 omega
theorem and_low {x : Int} (hx : 0 ≤ x ∧ x ≤ 18446744073709551615) : IntKind.u64.wrap (((BitVec.ofInt IntKind.u64.bits x &&& BitVec.ofInt IntKind.u64.bits 4294967295).toNat : Nat) : Int) = x % 4294967296 := by
  rw [show IntKind.u64.bits = 64 from rfl, BitVec.toNat_and, BitVec.toNat_ofInt, BitVec.toNat_ofInt]
  have e1 : (x % ((2 ^ 64 : Nat) : Int)).toNat = x.toNat := by
    rw [Int.emod_eq_of_lt hx.1 (by have : ((2 ^ 64 : Nat) : Int) = 18446744073709551616 := by decide
                                   omega)]
  have e2 : ((4294967295 : Int) % ((2 ^ 64 : Nat) : Int)).toNat = 2 ^ 32 - 1 := by decide
  rw [e1, e2, Nat.and_two_pow_sub_one_eq_mod]
  have e3 : (2 : Nat) ^ 32 = 4294967296 := by decide
  rw [e3, wrap_u64 (by omega)]
  omega
theorem wrap_u64_mod (x : Int) : IntKind.u64.wrap x = x % 18446744073709551616 := by
 simp only [IntKind.wrap, IntKind.bits, IntKind.signed]
 simp
theorem safeint_times.law {α : Type} {N : Nat} (hN : 18446744073709551616 ≤ N) (a0 : Int) (a1 : Int) (w0 : K.wf (.int .u64) a0) (w1 : K.wf (.int .u64) a1) (kr : ((Int × Int) → Option α)) : safeint_times.g N a0 a1 kr = kr (safeint_times.spec a0 a1) := by
 have w0 := inI_u64.1 w0
 have w1 := inI_u64.1 w1
 unfold safeint_times.g safeint_times.spec
 have e32 : ((2 : Int) ^ min (Int.toNat 32) IntKind.u64.bits) = 4294967296 := by decide
 have fd : ∀ z : Int, z.fdiv 4294967296 = z / 4294967296 := fun z => Int.fdiv_eq_ediv_of_nonneg z (by decide)
 simp only [e32, fd, and_low w0, and_low w1]
 have ex : a0 = 4294967296 * (a0 / 4294967296) + a0 % 4294967296 := by omega
 have ey : a1 = 4294967296 * (a1 / 4294967296) + a1 % 4294967296 := by omega
 have ep := halves ex ey
 have b1 := mul_le_low (a := a0 / 4294967296) (b := a1 / 4294967296) (by omega) (by omega) (by omega) (by omega)
 have b2 := mul_le_low (a := a0 / 4294967296) (b := a1 % 4294967296) (by omega) (by omega) (by omega) (by omega)
 have b3 := mul_le_low (a := a0 % 4294967296) (b := a1 / 4294967296) (by omega) (by omega) (by omega) (by omega)
 have b4 := mul_le_low (a := a0 % 4294967296) (b := a1 % 4294967296) (by omega) (by omega) (by omega) (by omega)
 generalize a0 / 4294967296 * (a1 / 4294967296) = p11 at *
 generalize a0 / 4294967296 * (a1 % 4294967296) = p10 at *
 generalize a0 % 4294967296 * (a1 / 4294967296) = p01 at *
 generalize a0 % 4294967296 * (a1 % 4294967296) = p00 at *
 rw [wrap_u64 (x := p11) (by omega), wrap_u64 (x := p10) (by omega), wrap_u64 (x := p01) (by omega), wrap_u64 (x := p00) (by omega), wrap_u64 (x := p10 + p00 / 4294967296) (by omega), and_low (x := p10 + p00 / 4294967296) (by omega),
  wrap_u64 (x := p01 + (p10 + p00 / 4294967296) % 4294967296) (by omega), wrap_u64 (x := p11 + (p10 + p00 / 4294967296) / 4294967296) (by omega), wrap_u64_mod (a0 * a1), wrap_u64_mod]
 have hq : (p11 + (p10 + p00 / 4294967296) / 4294967296 + (p01 + (p10 + p00 / 4294967296) % 4294967296) / 4294967296) % 18446744073709551616 = a0 * a1 / 18446744073709551616 := by
  rw [ep]
  omega
 rw [hq]
theorem safeint_times.ok : FentOk P 110 safeint_times.fent := fentOk_of (by kernel_rfl) fun ds hk => by
 obtain ⟨a0, l0, rfl, h0⟩ := ds_cons hk
 obtain ⟨a1, l1, rfl, h1⟩ := ds_cons h0
 obtain rfl := ds0 h1
 exact ⟨true, [.dat (.st (.pr (.int .u64) (.int .u64))) (safeint_times.spec a0 a1)], fun h hw => safeint_times.calls 18446744073709551616 a0 a1 (safeint_times.law (Nat.le_refl _) a0 a1 hw.1 hw.2.1 _), fun α k => rfl⟩
end Go.VI
namespace Go.VI
open Go Go.Proofs
namespace safeint_size
def an111 : Ann := []
def ents111 {α : Type} (N : Nat) : List (SmE α) := []
def C (N : Nat) : Ctx := ⟨tys, [], [], N⟩
theorem ents111_ok {α : Type} (N : Nat) : AllP (EntOk (C N) Try.f111 an111 (ents111 (α := α) N)) (ents111 N) := trivial
def g {α : Type} (N : Nat) (a0 : Int) (kr : (Int → Option α)) : Option α :=
 cond (decide (a0 < 0)) (kr (IntKind.u64.wrap (0 - IntKind.u64.wrap a0))) (kr (IntKind.u64.wrap a0))
theorem eq (N : Nat) (a0 : Int) : evF (C N) 50 Try.f111 an111 (smL (ents111 N) 0 50) [((.int .u64 : K), false)] [⟨.int .i64, a0⟩] = g N a0 (fun r0 => some [.dat (K.int IntKind.u64) r0]) := by kernel_rfl
theorem ctxOk (N : Nat) : CtxOk P (C N) := ctxOk_of tysOk mixedOk trivial trivial
theorem calls (N : Nat) (a0 : Int) {rs : List Rs} (h : g N a0 (fun r0 => some [.dat (K.int IntKind.u64) r0]) = some rs) : CallsTo P 111 [⟨.int .i64, a0⟩] rs := evF_calls' (ctxOk N) (by rfl) (ents111_ok N) ((eq N a0).trans h)
end safeint_size
theorem safeint_size.law {α : Type} {N : Nat} (hN : 18446744073709551616 ≤ N) (a0 : Int) (w0 : K.wf (.int .i64) a0) (kr : (Int → Option α)) : safeint_size.g N a0 kr = kr (safeint_size.spec a0) := by
 have w0 := inI_i64.1 w0
 unfold safeint_size.g safeint_size.spec
 have e : ∀ x : Int, IntKind.u64.wrap x = x % 18446744073709551616 := fun x => by
  simp only [IntKind.wrap, IntKind.bits, IntKind.signed]
  simp
 by_cases h : a0 < 0
 ·
  rw [decide_eq_true h, cond_true, e, e, show (0 - a0 % 18446744073709551616) % 18446744073709551616 = (a0.natAbs : Int) by omega]
 ·
  rw [decide_eq_false h, cond_false, e, show a0 % 18446744073709551616 = (a0.natAbs : Int) by omega]
theorem safeint_size.ok : FentOk P 111 safeint_size.fent := fentOk_of (by kernel_rfl) fun ds hk => by
 obtain ⟨a0, l0, rfl, h0⟩ := ds_cons hk
 obtain rfl := ds0 h0
 exact ⟨true, [.dat (.int .u64) (safeint_size.spec a0)], fun h hw => safeint_size.calls 18446744073709551616 a0 (safeint_size.law (Nat.le_refl _) a0 hw.1 _), fun α k => rfl⟩
end Go.VI
namespace Go.VI
open Go Go.Proofs
namespace safeint_signed
def an112 : Ann := []
def ents112 {α : Type} (N : Nat) : List (SmE α) := []
def C (N : Nat) : Ctx := ⟨tys, [], [], N⟩
theorem ents112_ok {α : Type} (N : Nat) : AllP (EntOk (C N) Try.f112 an112 (ents112 (α := α) N)) (ents112 N) := trivial
def g {α : Type} (N : Nat) (a0 : Int) (a1 : Bool) (kr : (Int → Bool → Option α)) : Option α :=
 cond (a1) (cond (decide (a0 ≤ 9223372036854775808)) (kr (IntKind.i64.wrap (IntKind.u64.wrap (0 - a0))) (true)) (cond (!a1) (cond (decide (a0 ≤ 9223372036854775807)) (kr (IntKind.i64.wrap a0) (true)) (kr (0) (false))) (kr (0) (false)))) (cond (!a1) (cond (decide (a0 ≤ 9223372036854775807)) (kr (IntKind.i64.wrap a0) (true)) (kr (0) (false))) (kr (0) (false)))
theorem eq (N : Nat) (a0 : Int) (a1 : Bool) : evF (C N) 50 Try.f112 an112 (smL (ents112 N) 0 50) [((.int .i64 : K), false), ((.bool : K), false)] [⟨.int .u64, a0⟩, ⟨.bool, a1⟩] = g N a0 a1 (fun r0 r1 => some [.dat (K.int IntKind.i64) r0, .dat (K.bool) r1]) := by kernel_rfl
theorem ctxOk (N : Nat) : CtxOk P (C N) := ctxOk_of tysOk mixedOk trivial trivial
theorem calls (N : Nat) (a0 : Int) (a1 : Bool) {rs : List Rs} (h : g N a0 a1 (fun r0 r1 => some [.dat (K.int IntKind.i64) r0, .dat (K.bool) r1]) = some rs) : CallsTo P 112 [⟨.int .u64, a0⟩, ⟨.bool, a1⟩] rs := evF_calls' (ctxOk N) (by rfl) (ents112_ok N) ((eq N a0 a1).trans h)
end safeint_signed
theorem neg_wrap {n : Int} (h0 : 0 ≤ n) (h : n ≤ 9223372036854775808) : IntKind.i64.wrap (IntKind.u64.wrap (0 - n)) = -n := by
 simp only [IntKind.wrap, IntKind.bits, IntKind.signed]
 simp
 split <;> omega
theorem safeint_signed.law {α : Type} {N : Nat} (hN : 18446744073709551616 ≤ N) (a0 : Int) (a1 : Bool) (w0 : K.wf (.int .u64) a0) (w1 : K.wf (.bool) a1) (kr : (Int → Bool → Option α)) : safeint_signed.g N a0 a1 kr = kr (safeint_signed.spec a0 a1).1 (safeint_signed.spec a0 a1).2 := by
 have w0 := inI_u64.1 w0
 unfold safeint_signed.g safeint_signed.spec
 cases a1
 ·
  simp only [cond_false, Bool.not_false, cond_true]
  by_cases h : a0 ≤ 9223372036854775807
  ·
   rw [decide_eq_true h, cond_true, cond_true, wrap_i64 (inI_i64.2 (by omega))]
  ·
   rw [decide_eq_false h]; rfl
 ·
  simp only [cond_true, Bool.not_true, cond_false]
  by_cases h : a0 ≤ 9223372036854775808
  ·
   rw [decide_eq_true h, cond_true, cond_true, neg_wrap w0.1 h]
  ·
   rw [decide_eq_false h]; rfl
theorem safeint_signed.ok : FentOk P 112 safeint_signed.fent := fentOk_of (by kernel_rfl) fun ds hk => by
 obtain ⟨a0, l0, rfl, h0⟩ := ds_cons hk
 obtain ⟨a1, l1, rfl, h1⟩ := ds_cons h0
 obtain rfl := ds0 h1
 exact ⟨true, [.dat (.int .i64) (safeint_signed.spec a0 a1).1, .dat (.bool) (safeint_signed.spec a0 a1).2], fun h hw => safeint_signed.calls 18446744073709551616 a0 a1 (safeint_signed.law (Nat.le_refl _) a0 a1 hw.1 hw.2.1 _), fun α k => rfl⟩
end Go.VI
namespace Go.VI
open Go Go.Proofs
namespace safeint_Mul
def an104 : Ann := []
def ents104 {α : Type} (N : Nat) : List (SmE α) := []
def C (N : Nat) : Ctx := ⟨tys, [(110, safeint_times.fent), (111, safeint_size.fent), (112, safeint_signed.fent)], [], N⟩
theorem ents104_ok {α : Type} (N : Nat) : AllP (EntOk (C N) Try.f104 an104 (ents104 (α := α) N)) (ents104 N) := trivial
def g {α : Type} (N : Nat) (a0 : Int) (a1 : Int) (kr : (Int → Bool → Option α)) : Option α :=
 cond ((safeint_times.spec (safeint_size.spec a0) (safeint_size.spec a1)).fst != 0) (kr (0) (false)) (lt (safeint_signed.spec (safeint_times.spec (safeint_size.spec a0) (safeint_size.spec a1)).snd !decide (a0 < 0) == decide (a1 < 0)) fun v3 => kr (v3.fst) (v3.snd))
theorem eq (N : Nat) (a0 : Int) (a1 : Int) : evF (C N) 50 Try.f104 an104 (smL (ents104 N) 0 50) [((.int .i64 : K), false), ((.bool : K), false)] [⟨.int .i64, a0⟩, ⟨.int .i64, a1⟩] = g N a0 a1 (fun r0 r1 => some [.dat (K.int IntKind.i64) r0, .dat (K.bool) r1]) := by kernel_rfl
theorem ctxOk (N : Nat) : CtxOk P (C N) := ctxOk_of tysOk mixedOk ⟨safeint_times.ok, safeint_size.ok, safeint_signed.ok, trivial⟩ trivial
theorem calls (N : Nat) (a0 : Int) (a1 : Int) {rs : List Rs} (h : g N a0 a1 (fun r0 r1 => some [.dat (K.int IntKind.i64) r0, .dat (K.bool) r1]) = some rs) : CallsTo P 104 [⟨.int .i64, a0⟩, ⟨.int .i64, a1⟩] rs := evF_calls' (ctxOk N) (by rfl) (ents104_ok N) ((eq N a0 a1).trans h)
end safeint_Mul
theorem safeint_Mul.law {α : Type} {N : Nat} (hN : 18446744073709551616 ≤ N) (a0 : Int) (a1 : Int) (w0 : K.wf (.int .i64) a0) (w1 : K.wf (.int .i64) a1) (kr : (Int → Bool → Option α)) : safeint_Mul.g N a0 a1 kr = kr (safeint_Mul.spec a0 a1).1 (safeint_Mul.spec a0 a1).2 := by
 have w0 := inI_i64.1 w0
 have w1 := inI_i64.1 w1
 unfold safeint_Mul.g safeint_Mul.spec
 simp only [lt]
 have ea : ((a0.natAbs : Int) * (a1.natAbs : Int)) = ((a0 * a1).natAbs : Int) := by rw [Int.natAbs_mul]; omega
 have hs : (a0 * a1 < 0 → (!(decide (a0 < 0) == decide (a1 < 0))) = true) ∧ (0 < a0 * a1 → (!(decide (a0 < 0) == decide (a1 < 0))) = false) := by
  by_cases h0 : a0 < 0
  ·
   by_cases h1 : a1 < 0
   ·
    have := Int.mul_pos_of_neg_of_neg h0 h1
    rw [decide_eq_true h0, decide_eq_true h1]
    exact ⟨fun h => by omega, fun _ => rfl⟩
   ·
    have := Int.mul_nonpos_of_nonpos_of_nonneg (Int.le_of_lt h0) (show 0 ≤ a1 by omega)
    rw [decide_eq_true h0, decide_eq_false h1]
    exact ⟨fun _ => rfl, fun h => by omega⟩
  ·
   by_cases h1 : a1 < 0
   ·
    have := Int.mul_nonpos_of_nonneg_of_nonpos (show 0 ≤ a0 by omega) (Int.le_of_lt h1)
    rw [decide_eq_false h0, decide_eq_true h1]
    exact ⟨fun _ => rfl, fun h => by omega⟩
   ·
    have := Int.mul_nonneg (show 0 ≤ a0 by omega) (show 0 ≤ a1 by omega)
    rw [decide_eq_false h0, decide_eq_false h1]
    exact ⟨fun h => by omega, fun _ => rfl⟩
 have et : safeint_times.spec (safeint_size.spec a0) (safeint_size.spec a1) = (((a0 * a1).natAbs : Int) / 18446744073709551616, ((a0 * a1).natAbs : Int) % 18446744073709551616) := by
  rw [← ea]
  rfl
 rw [et]
 clear et ea
 generalize a0 * a1 = p at *
 generalize (!(decide (a0 < 0) == decide (a1 < 0))) = q at *
 simp only [safeint_signed.spec]
 by_cases hb : (p.natAbs : Int) < 18446744073709551616
 ·
  have e1 : ((p.natAbs : Int) / 18446744073709551616 != 0) = false := by simp; omega
  rw [e1, cond_false, show (p.natAbs : Int) % 18446744073709551616 = (p.natAbs : Int) by omega]
  by_cases hr : -9223372036854775808 ≤ p ∧ p ≤ 9223372036854775807
  ·
   rw [chk_t hr]
   cases q
   ·
    have hp : 0 ≤ p := Classical.byContradiction fun hn => by have := hs.1 (by omega); cases this
    rw [cond_false, decide_eq_true (by omega), cond_true, show (p.natAbs : Int) = p by omega]
   ·
    have hp : p ≤ 0 := Classical.byContradiction fun hn => by have := hs.2 (by omega); cases this
    rw [cond_true, decide_eq_true (by omega), cond_true, show -(p.natAbs : Int) = p by omega]
  ·
   rw [chk_f hr]
   cases q
   ·
    have hp : 0 ≤ p := Classical.byContradiction fun hn => by have := hs.1 (by omega); cases this
    rw [cond_false, decide_eq_false (by omega), cond_false]
   ·
    have hp : p ≤ 0 := Classical.byContradiction fun hn => by have := hs.2 (by omega); cases this
    rw [cond_true, decide_eq_false (by omega), cond_false]
 ·
  have e1 : ((p.natAbs : Int) / 18446744073709551616 != 0) = true := by simp; omega
  rw [e1, cond_true, chk_f (by omega)]
theorem safeint_Mul.ok : FentOk P 104 safeint_Mul.fent := fentOk_of (by kernel_rfl) fun ds hk => by
 obtain ⟨a0, l0, rfl, h0⟩ := ds_cons hk
 obtain ⟨a1, l1, rfl, h1⟩ := ds_cons h0
 obtain rfl := ds0 h1
 exact ⟨true, [.dat (.int .i64) (safeint_Mul.spec a0 a1).1, .dat (.bool) (safeint_Mul.spec a0 a1).2], fun h hw => safeint_Mul.calls 18446744073709551616 a0 a1 (safeint_Mul.law (Nat.le_refl _) a0 a1 hw.1 hw.2.1 _), fun α k => rfl⟩
end Go.VI
namespace Go.VI
open Go Go.Proofs
namespace vector_Combine
def an89 : Ann := []
def an77 : Ann := [(5, [1, 2, 8, 21, 22, 23], [6, 7, 8])]
def an103 : Ann := []
def L0.sh : Sh := { sl := [(1, SV.a (SA.d (K.int IntKind.i64).sl)), (2, SV.a (SA.fx (Atom.fn 103 [0, 1]))), (8, SV.a (SA.fx (Atom.sl 2 0 none))), (21, SV.a (SA.d (K.int IntKind.i64).sl)), (22, SV.a (SA.d (K.int IntKind.i64))), (23, SV.a (SA.d (K.int IntKind.i64)))], os := [(2, SO.row (K.int IntKind.i64) 0), (1, SO.box [SA.d (K.int IntKind.i64)]), (0, SO.box [SA.d (K.int IntKind.i64)])], nx := 3 }
def L0.x0 : Sh := { sl := [(6, SV.a (SA.fx (Atom.sl 2 0 none))), (7, SV.a (SA.d (K.int IntKind.i64))), (8, SV.a (SA.fx (Atom.sl 3 0 none)))], os := [(2, SO.row (K.int IntKind.i64) 0), (3, SO.row (K.int IntKind.i64) 0), (1, SO.box [SA.d (K.int IntKind.i64)]), (0, SO.box [SA.d (K.int IntKind.i64)])], nx := 4 }
def L0.x1 : Sh := { sl := [(6, SV.j), (7, SV.j), (8, SV.a (SA.fx (Atom.sl 2 0 none)))], os := [(2, SO.row (K.int IntKind.i64) 0), (1, SO.box [SA.d (K.int IntKind.i64)]), (0, SO.box [SA.d (K.int IntKind.i64)])], nx := 3 }
def L0.st {α : Type} (N : Nat) (x0 : (List Int)) (x1 : (List Int)) (x2 : Int) (x5 : Int) (x6 : Int) (φ : (Int → (List Int) → Option α)) (x3 : Int) (x4 : (List Int)) (k0 : (Int → (List Int) → (List Int) → Option α)) (k1 : ((List Int) → Option α)) : Option α :=
 cond (decide (x3 < x2)) (cond (decide (0 ≤ x3) && decide (x3 < (↑x1.length : Int))) (cond (decide (0 ≤ x3) && decide (x3 < (↑x0.length : Int))) (lt (safeint_Mul.spec (x1.getD x3.toNat (0 : Int)) x6) fun v0 => cond (!v0.snd) (k0 (3) ([]) (x4)) (lt (safeint_Mul.spec (x0.getD x3.toNat (0 : Int)) x5) fun v1 => cond (!v1.snd) (k0 (3) ([]) (x4)) (cond ((safeint_Add.spec v0.fst v1.fst).snd) (cond (decide (0 ≤ x3) && decide (x3 < (↑x4.length : Int))) (φ (IntKind.i64.wrap (x3 + 1)) (x4.set (0 + x3.toNat) (safeint_Add.spec v0.fst v1.fst).fst)) (none)) (k0 (3) ([]) (x4))))) (none)) (none)) (k1 (x4))
def L0.f {α : Type} (N : Nat) (c0 : (List Int)) (c1 : (List Int)) (c2 : Int) (c3 : Int) (c4 : Int) : Nat → Int → (List Int) → (Int → (List Int) → (List Int) → Option α) → ((List Int) → Option α) → Option α
 | 0, _, _, _, _ => none
 | n + 1, d0, d1, k0, k1 => L0.st N c0 c1 c2 c3 c4 (fun e0 e1 => L0.f N c0 c1 c2 c3 c4 n e0 e1 k0 k1) d0 d1 k0 k1
def L0.up (d : L0.sh.T) (e0 : Int) (e1 : (List Int)) : L0.sh.T := ((d.1.1, ((), ((), (d.1.2.2.2.1, (d.1.2.2.2.2.1, (e0, ())))))), (e1, ((d.2.2.1.1, ()), ((d.2.2.2.1.1, ()), ()))))
def L0.k0 {α : Type} (d : L0.sh.T) (K : Cont α) : (Int → (List Int) → (List Int) → Option α) := fun y0 y1 y2 => K (Exit.ret) (L0.x0.enc (((), (y0, ((), ()))), (y1, (y2, ((d.2.2.1.1, ()), ((d.2.2.2.1.1, ()), ()))))))
def L0.k1 {α : Type} (d : L0.sh.T) (K : Cont α) : ((List Int) → Option α) := fun y0 => K (Exit.exit 0) (L0.x1.enc (((), ((), ((), ()))), (y0, ((d.2.2.1.1, ()), ((d.2.2.2.1.1, ()), ())))))
def L0.F {α : Type} (N : Nat) (d : L0.sh.T) (K : Cont α) : Option α := L0.f N d.1.1 d.1.2.2.2.1 d.1.2.2.2.2.1 d.2.2.1.1 d.2.2.2.1.1 N d.1.2.2.2.2.2.1 d.2.1 (L0.k0 d K) (L0.k1 d K)
def ents89 {α : Type} (N : Nat) : List (SmE α) := []
def ents77 {α : Type} (N : Nat) : List (SmE α) := [⟨2, 49, 5, [⟨L0.sh, L0.F N⟩]⟩]
def ents103 {α : Type} (N : Nat) : List (SmE α) := []
def C (N : Nat) : Ctx := ⟨tys, [(78, safeint_Add.fent), (104, safeint_Mul.fent)], [(77, ⟨Try.f77, an77, fun α lo d r => smL (ents77 N) lo d r⟩), (103, ⟨Try.f103, an103, fun α lo d r => smL (ents103 N) lo d r⟩)], N⟩
def L0.B {α : Type} (N : Nat) : Env → Cont α → Option α := evC tys 45 2 (evCall (C N) 49) (evCallQ (C N)) N an77 (smL (ents77 N) 2 49) (loopOf 5 Try.f77)
theorem L0.r {α : Type} (N : Nat) (φ : Env → Option α) (K : Cont α) (d : L0.sh.T) : L0.B N (L0.sh.enc d) (contL φ K (Env.norm 2 [1, 2, 8, 21, 22, 23]) (Env.norm 2 [6, 7, 8])) = L0.st N d.1.1 d.1.2.2.2.1 d.1.2.2.2.2.1 d.2.2.1.1 d.2.2.2.1.1 (fun e0 e1 => φ (L0.sh.enc (L0.up d e0 e1))) d.1.2.2.2.2.2.1 d.2.1 (L0.k0 d K) (L0.k1 d K) := by kernel_rfl
theorem L0.e {α : Type} (N : Nat) : ∀ (n : Nat) (d : L0.sh.T) (K : Cont α), evL (L0.B N) (Env.norm 2 [1, 2, 8, 21, 22, 23]) (Env.norm 2 [6, 7, 8]) n (L0.sh.enc d) K = L0.f N d.1.1 d.1.2.2.2.1 d.1.2.2.2.2.1 d.2.2.1.1 d.2.2.2.1.1 n d.1.2.2.2.2.2.1 d.2.1 (L0.k0 d K) (L0.k1 d K)
 | 0, d, K => rfl
 | n + 1, d, K => evL_contL.trans ((L0.r N _ K d).trans (congrArg (fun φ => L0.st N d.1.1 d.1.2.2.2.1 d.1.2.2.2.2.1 d.2.2.1.1 d.2.2.2.1.1 φ d.1.2.2.2.2.2.1 d.2.1 (L0.k0 d K) (L0.k1 d K)) (funext fun e0 => funext fun e1 => L0.e N n (L0.up d e0 e1) K)))
theorem ents89_ok {α : Type} (N : Nat) : AllP (EntOk (C N) Try.f89 an89 (ents89 (α := α) N)) (ents89 N) := trivial
theorem ents77_ok {α : Type} (N : Nat) : AllP (EntOk (C N) Try.f77 an77 (ents77 (α := α) N)) (ents77 N) := ⟨entOk_of (b0 := loopOf 5 Try.f77) (li0 := [1, 2, 8, 21, 22, 23]) (lx0 := [6, 7, 8]) (by kernel_rfl) (by kernel_rfl) ⟨fun d K => L0.e N N d K, trivial⟩, trivial⟩
theorem ents103_ok {α : Type} (N : Nat) : AllP (EntOk (C N) Try.f103 an103 (ents103 (α := α) N)) (ents103 N) := trivial
def g {α : Type} (N : Nat) (a0 : List Int) (a1 : Int) (a2 : List Int) (a3 : Int) (kr : ((List Int) → Int → Option α)) : Option α :=
 cond ((↑a0.length : Int) != (↑a2.length : Int)) (kr ([]) (2)) (cond (decide (0 ≤ (↑a0.length : Int)) && decide ((↑a0.length : Int) ≤ (↑a0.length : Int)) && decide ((↑a0.length : Int) ≤ 1073741824)) (L0.f N (a2) (a0) ((↑a0.length : Int)) (a3) (a1) N (0) (List.replicate (↑a0.length : Int).toNat (0 : Int)) (fun x7 x8 x9 => kr (x8) (x7)) (fun x10 => kr (x10) (0))) (none))
theorem eq (N : Nat) (a0 : List Int) (a1 : Int) (a2 : List Int) (a3 : Int) : evF (C N) 50 Try.f89 an89 (smL (ents89 N) 0 50) [(((.int .i64) : K), true), ((.int .i64 : K), false)] [⟨.sl (.int .i64), a0⟩, ⟨.int .i64, a1⟩, ⟨.sl (.int .i64), a2⟩, ⟨.int .i64, a3⟩] = g N a0 a1 a2 a3 (fun r0 r1 => some [.own (K.int IntKind.i64) r0, .dat (K.int IntKind.i64) r1]) := by kernel_rfl
theorem ctxOk (N : Nat) : CtxOk P (C N) := ctxOk_of tysOk mixedOk ⟨safeint_Add.ok, safeint_Mul.ok, trivial⟩ ⟨⟨⟨by rfl, by kernel_rfl⟩, fun α lo d c hc => smL_ok (ents77_ok N) lo d hc⟩, ⟨⟨by rfl, by kernel_rfl⟩, fun α lo d c hc => smL_ok (ents103_ok N) lo d hc⟩, trivial⟩
theorem calls (N : Nat) (a0 : List Int) (a1 : Int) (a2 : List Int) (a3 : Int) {rs : List Rs} (h : g N a0 a1 a2 a3 (fun r0 r1 => some [.own (K.int IntKind.i64) r0, .dat (K.int IntKind.i64) r1]) = some rs) : CallsTo P 89 [⟨.sl (.int .i64), a0⟩, ⟨.int .i64, a1⟩, ⟨.sl (.int .i64), a2⟩, ⟨.int .i64, a3⟩] rs := evF_calls' (ctxOk N) (by rfl) (ents89_ok N) ((eq N a0 a1 a2 a3).trans h)
def L0.l {α : Type} (N : Nat) (x0 : (List Int)) (x1 : (List Int)) (x5 : Int) (x6 : Int) (k0 : (Int → (List Int) → (List Int) → Option α)) (k1 : ((List Int) → Option α)) : List Int → Int → (List Int) → Option α
 | [], x3, x4 => k1 (x4)
 | x :: l, x3, x4 => (cond (decide (0 ≤ x3) && decide (x3 < (↑x0.length : Int))) (lt (safeint_Mul.spec x x6) fun v0 => cond (!v0.snd) (k0 (3) ([]) (x4)) (lt (safeint_Mul.spec (x0.getD x3.toNat (0 : Int)) x5) fun v1 => cond (!v1.snd) (k0 (3) ([]) (x4)) (cond ((safeint_Add.spec v0.fst v1.fst).snd) (cond (decide (0 ≤ x3) && decide (x3 < (↑x4.length : Int))) (L0.l N x0 x1 x5 x6 k0 k1 l (x3 + 1) (x4.set (0 + x3.toNat) (safeint_Add.spec v0.fst v1.fst).fst)) (none)) (k0 (3) ([]) (x4))))) (none))
theorem L0.rng {α : Type} {N : Nat} (x0 : (List Int)) (x1 : (List Int)) (x5 : Int) (x6 : Int) (hl : x1.length ≤ maxLen) (k0 : (Int → (List Int) → (List Int) → Option α)) (k1 : ((List Int) → Option α)) : ∀ (n j : Nat) (x4 : (List Int)), x1.length < n + j → j ≤ x1.length → L0.f N x0 x1 (x1.length : Int) x5 x6 n (j : Int) x4 k0 k1 = L0.l N x0 x1 x5 x6 k0 k1 (x1.drop j) (j : Int) x4 :=
 rng1 x1 hl (fun n i x4 => L0.f N x0 x1 (x1.length : Int) x5 x6 n i x4 k0 k1) (fun l i x4 => L0.l N x0 x1 x5 x6 k0 k1 l i x4) (fun n j hj h ih x4 => by simp only [L0.f, L0.st, L0.l, h.a, h.b, h.c, h.d, h.e, Bool.true_and, Bool.and_true, Bool.and_self, cond_true, ih] <;> rfl) (fun n j h x4 => by simp only [L0.f, L0.st, L0.l, h, cond_false])
end vector_Combine
theorem vector_Combine.L0.law {α : Type} {N : Nat} (x0 x1 : List Int) (x5 x6 : Int) (k0 : Int → List Int → List Int → Option α) (k1 : List Int → Option α) (r : Option α) (hk : ∀ z, k0 3 [] z = r) (hab : x1.length = x0.length) : ∀ (l : List Int) (j : Nat) (pre : List Int), pre.length = j → l = x1.drop j →
  vector_Combine.L0.l N x0 x1 x5 x6 k0 k1 l (j : Int) (pre ++ List.replicate l.length 0) = match combL x6 x5 l (x0.drop j) with | some q => k1 (pre ++ q) | none => r
 | [], j, pre, hp, hl => by simp [vector_Combine.L0.l, combL]
 | x :: l, j, pre, hp, hl => by
  obtain ⟨hj, hx, hl'⟩ := drop_step hl
  have hb : j < x0.length := hab ▸ hj
  rw [List.drop_eq_getElem_cons hb]
  have e1 : decide ((j : Int) < ((pre ++ List.replicate (x :: l).length (0 : Int)).length : Int)) = true := d_lt (by simp; omega)
  simp only [vector_Combine.L0.l, d_0, d_lt hb, getD_n hb, e1, Bool.and_self, cond_true, Nat.zero_add, Int.toNat_natCast, combL, comb1, lt, safeint_Mul.spec, safeint_Add.spec, hk]
  unfold chk
  cases h1 : inI64 (x * x6)
  ·
   simp only [cond_false, Bool.not_false, cond_true, Bool.false_and]
  ·
   cases h2 : inI64 (x0[j] * x5)
   ·
    simp only [cond_false, Bool.not_false, cond_true, Bool.not_true, Bool.true_and, Bool.false_and]
   ·
    cases h3 : inI64 (x * x6 + x0[j] * x5)
    ·
     simp only [cond_false, Bool.not_false, cond_true, Bool.not_true, Bool.true_and, h3]
    ·
     simp only [cond_false, Bool.not_false, cond_true, Bool.not_true, Bool.true_and, h3, List.length_cons, List.replicate_succ]
     rw [set_mid pre _ 0 _ hp, ← succ_cast]
     have ih := vector_Combine.L0.law (N := N) x0 x1 x5 x6 k0 k1 r hk hab l (j + 1) (pre ++ [x * x6 + x0[j] * x5]) (by simp [hp]) hl'
     simp only [List.append_assoc, List.singleton_append] at ih
     rw [ih]
     cases combL x6 x5 l (x0.drop (j + 1)) <;> rfl
theorem vector_Combine.law {α : Type} {N : Nat} (hN : 18446744073709551616 ≤ N) (a0 : List Int) (a1 : Int) (a2 : List Int) (a3 : Int) (w0 : K.wf (.sl (.int .i64)) a0) (w1 : K.wf (.int .i64) a1) (w2 : K.wf (.sl (.int .i64)) a2) (w3 : K.wf (.int .i64) a3) (hp : vector_Combine.pre a0 a1 a2 a3 = true) (kr : ((List Int) → Int → Option α)) : vector_Combine.g N a0 a1 a2 a3 kr = kr (vector_Combine.spec a0 a1 a2 a3).1 (vector_Combine.spec a0 a1 a2 a3).2 := by
 unfold vector_Combine.g vector_Combine.spec combS
 simp only [vector_Combine.pre, bigL, decide_eq_true_eq] at hp
 rw [bne_len]
 by_cases h : a0.length = a2.length
 ·
  have e1 : decide ((a0.length : Int) ≤ 1073741824) = true := decide_eq_true (by omega)
  simp only [beq_t h, Bool.not_true, cond_false, cond_true, d_0, e1, Int.le_refl, decide_true, Bool.and_self, Int.toNat_natCast]
  have h1 := vector_Combine.L0.rng (N := N) a2 a0 a3 a1 w0.1 (fun x7 x8 x9 => kr x8 x7) (fun x10 => kr x10 0) N 0 (List.replicate a0.length 0) (by have := le_fuel w0.1 hN; omega) (Nat.zero_le _)
  have h2 := vector_Combine.L0.law (N := N) a2 a0 a3 a1 (fun x7 x8 x9 => kr x8 x7) (fun x10 => kr x10 0) (kr [] 3) (fun _ => rfl) h a0 0 [] rfl rfl
  simp only [List.drop_zero] at h1 h2
  refine h1.trans (h2.trans ?_)
  cases combL a1 a3 a0 a2 <;> rfl
 ·
  simp only [beq_f h, Bool.not_false, cond_true, cond_false]
theorem vector_Combine.ok : FentOk P 89 vector_Combine.fent := fentOk_of (by kernel_rfl) fun ds hk => by
 obtain ⟨a0, l0, rfl, h0⟩ := ds_cons hk
 obtain ⟨a1, l1, rfl, h1⟩ := ds_cons h0
 obtain ⟨a2, l2, rfl, h2⟩ := ds_cons h1
 obtain ⟨a3, l3, rfl, h3⟩ := ds_cons h2
 obtain rfl := ds0 h3
 exact ⟨vector_Combine.pre a0 a1 a2 a3, [.own (.int .i64) (vector_Combine.spec a0 a1 a2 a3).1, .dat (.int .i64) (vector_Combine.spec a0 a1 a2 a3).2], fun h hw => vector_Combine.calls 18446744073709551616 a0 a1 a2 a3 (vector_Combine.law (Nat.le_refl _) a0 a1 a2 a3 hw.1 hw.2.1 hw.2.2.1 hw.2.2.2.1 h _), fun α k => rfl⟩
end Go.VI
namespace Go.VI
open Go Go.Proofs
namespace safeint_common
def an113 : Ann := [(1, [0, 1], [0])]
def L0.sh : Sh := { sl := [(0, SV.a (SA.d (K.int IntKind.u64))), (1, SV.a (SA.d (K.int IntKind.u64)))], os := [], nx := 0 }
def L0.x0 : Sh := { sl := [(0, SV.a (SA.d (K.int IntKind.u64)))], os := [], nx := 0 }
def L0.st {α : Type} (N : Nat) (φ : (Int → Int → Option α)) (x0 : Int) (x1 : Int) (k0 : (Int → Option α)) : Option α :=
 cond (x1 == 0) (k0 (x0)) (cond (!decide (x1 = 0)) (φ (x1) (x0.tmod x1)) (none))
def L0.f {α : Type} (N : Nat) : Nat → Int → Int → (Int → Option α) → Option α
 | 0, _, _, _ => none
 | n + 1, d0, d1, k0 => L0.st N (fun e0 e1 => L0.f N n e0 e1 k0) d0 d1 k0
def L0.up (d : L0.sh.T) (e0 : Int) (e1 : Int) : L0.sh.T := ((e0, (e1, ())), ())
def L0.k0 {α : Type} (d : L0.sh.T) (K : Cont α) : (Int → Option α) := fun y0 => K (Exit.exit 0) (L0.x0.enc ((y0, ()), ()))
def L0.F {α : Type} (N : Nat) (d : L0.sh.T) (K : Cont α) : Option α := L0.f N N d.1.1 d.1.2.1 (L0.k0 d K)
def ents113 {α : Type} (N : Nat) : List (SmE α) := [⟨0, 50, 1, [⟨L0.sh, L0.F N⟩]⟩]
def C (N : Nat) : Ctx := ⟨tys, [], [], N⟩
def L0.B {α : Type} (N : Nat) : Env → Cont α → Option α := evC tys 12 0 (evCall (C N) 50) (evCallQ (C N)) N an113 (smL (ents113 N) 0 50) (loopOf 1 Try.f113)
theorem L0.r {α : Type} (N : Nat) (φ : Env → Option α) (K : Cont α) (d : L0.sh.T) : L0.B N (L0.sh.enc d) (contL φ K (Env.norm 0 [0, 1]) (Env.norm 0 [0])) = L0.st N (fun e0 e1 => φ (L0.sh.enc (L0.up d e0 e1))) d.1.1 d.1.2.1 (L0.k0 d K) := by kernel_rfl
theorem L0.e {α : Type} (N : Nat) : ∀ (n : Nat) (d : L0.sh.T) (K : Cont α), evL (L0.B N) (Env.norm 0 [0, 1]) (Env.norm 0 [0]) n (L0.sh.enc d) K = L0.f N n d.1.1 d.1.2.1 (L0.k0 d K)
 | 0, d, K => rfl
 | n + 1, d, K => evL_contL.trans ((L0.r N _ K d).trans (congrArg (fun φ => L0.st N φ d.1.1 d.1.2.1 (L0.k0 d K)) (funext fun e0 => funext fun e1 => L0.e N n (L0.up d e0 e1) K)))
theorem ents113_ok {α : Type} (N : Nat) : AllP (EntOk (C N) Try.f113 an113 (ents113 (α := α) N)) (ents113 N) := ⟨entOk_of (b0 := loopOf 1 Try.f113) (li0 := [0, 1]) (lx0 := [0]) (by kernel_rfl) (by kernel_rfl) ⟨fun d K => L0.e N N d K, trivial⟩, trivial⟩
def g {α : Type} (N : Nat) (a0 : Int) (a1 : Int) (kr : (Int → Option α)) : Option α :=
 L0.f N  N (a0) (a1) (fun x2 => kr (x2))
theorem eq (N : Nat) (a0 : Int) (a1 : Int) : evF (C N) 50 Try.f113 an113 (smL (ents113 N) 0 50) [((.int .u64 : K), false)] [⟨.int .u64, a0⟩, ⟨.int .u64, a1⟩] = g N a0 a1 (fun r0 => some [.dat (K.int IntKind.u64) r0]) := by kernel_rfl
theorem ctxOk (N : Nat) : CtxOk P (C N) := ctxOk_of tysOk mixedOk trivial trivial
theorem calls (N : Nat) (a0 : Int) (a1 : Int) {rs : List Rs} (h : g N a0 a1 (fun r0 => some [.dat (K.int IntKind.u64) r0]) = some rs) : CallsTo P 113 [⟨.int .u64, a0⟩, ⟨.int .u64, a1⟩] rs := evF_calls' (ctxOk N) (by rfl) (ents113_ok N) ((eq N a0 a1).trans h)
end safeint_common
theorem safeint_common.L0.law {α : Type} {N : Nat} (k0 : Int → Option α) : ∀ (n : Nat) (x y : Nat), y < n → safeint_common.L0.f N n (x : Int) (y : Int) k0 = k0 (Nat.gcd x y : Int)
 | 0, x, y, h => absurd h (by omega)
 | n + 1, x, y, h => by
  rw [safeint_common.L0.f, safeint_common.L0.st]
  by_cases hy : y = 0
  ·
   subst hy
   simp
  ·
   have e1 : ((y : Int) == 0) = false := by simpa using hy
   have e2 : decide ((y : Int) = 0) = false := decide_eq_false (by omega)
   have e3 : Int.tmod (x : Int) (y : Int) = ((x % y : Nat) : Int) := rfl
   rw [e1, e2, cond_false, Bool.not_false, cond_true, e3, safeint_common.L0.law k0 n y (x % y) (by have := Nat.mod_lt x (Nat.pos_of_ne_zero hy); omega)]
   rw [Nat.gcd_comm x y, Nat.gcd_rec y x, Nat.gcd_comm (x % y) y]
theorem safeint_common.law {α : Type} {N : Nat} (hN : 18446744073709551616 ≤ N) (a0 : Int) (a1 : Int) (w0 : K.wf (.int .u64) a0) (w1 : K.wf (.int .u64) a1) (kr : (Int → Option α)) : safeint_common.g N a0 a1 kr = kr (safeint_common.spec a0 a1) := by
 have w0 := inI_u64.1 w0
 have w1 := inI_u64.1 w1
 unfold safeint_common.g safeint_common.spec
 obtain ⟨x, rfl⟩ := Int.eq_ofNat_of_zero_le w0.1
 obtain ⟨y, rfl⟩ := Int.eq_ofNat_of_zero_le w1.1
 exact safeint_common.L0.law (fun x => kr x) N x y (by omega)
theorem safeint_common.ok : FentOk P 113 safeint_common.fent := fentOk_of (by kernel_rfl) fun ds hk => by
 obtain ⟨a0, l0, rfl, h0⟩ := ds_cons hk
 obtain ⟨a1, l1, rfl, h1⟩ := ds_cons h0
 obtain rfl := ds0 h1
 exact ⟨true, [.dat (.int .u64) (safeint_common.spec a0 a1)], fun h hw => safeint_common.calls 18446744073709551616 a0 a1 (safeint_common.law (Nat.le_refl _) a0 a1 hw.1 hw.2.1 _), fun α k => rfl⟩
end Go.VI
namespace Go.VI
open Go Go.Proofs
namespace safeint_Gcd
def an105 : Ann := []
def ents105 {α : Type} (N : Nat) : List (SmE α) := []
def C (N : Nat) : Ctx := ⟨tys, [(111, safeint_size.fent), (112, safeint_signed.fent), (113, safeint_common.fent)], [], N⟩
theorem ents105_ok {α : Type} (N : Nat) : AllP (EntOk (C N) Try.f105 an105 (ents105 (α := α) N)) (ents105 N) := trivial
def g {α : Type} (N : Nat) (a0 : Int) (a1 : Int) (kr : (Int → Bool → Option α)) : Option α :=
 kr ((safeint_signed.spec (safeint_common.spec (safeint_size.spec a0) (safeint_size.spec a1)) false).fst) ((safeint_signed.spec (safeint_common.spec (safeint_size.spec a0) (safeint_size.spec a1)) false).snd)
theorem eq (N : Nat) (a0 : Int) (a1 : Int) : evF (C N) 50 Try.f105 an105 (smL (ents105 N) 0 50) [((.int .i64 : K), false), ((.bool : K), false)] [⟨.int .i64, a0⟩, ⟨.int .i64, a1⟩] = g N a0 a1 (fun r0 r1 => some [.dat (K.int IntKind.i64) r0, .dat (K.bool) r1]) := by kernel_rfl
theorem ctxOk (N : Nat) : CtxOk P (C N) := ctxOk_of tysOk mixedOk ⟨safeint_size.ok, safeint_signed.ok, safeint_common.ok, trivial⟩ trivial
theorem calls (N : Nat) (a0 : Int) (a1 : Int) {rs : List Rs} (h : g N a0 a1 (fun r0 r1 => some [.dat (K.int IntKind.i64) r0, .dat (K.bool) r1]) = some rs) : CallsTo P 105 [⟨.int .i64, a0⟩, ⟨.int .i64, a1⟩] rs := evF_calls' (ctxOk N) (by rfl) (ents105_ok N) ((eq N a0 a1).trans h)
end safeint_Gcd
theorem safeint_Gcd.law {α : Type} {N : Nat} (hN : 18446744073709551616 ≤ N) (a0 : Int) (a1 : Int) (w0 : K.wf (.int .i64) a0) (w1 : K.wf (.int .i64) a1) (kr : (Int → Bool → Option α)) : safeint_Gcd.g N a0 a1 kr = kr (safeint_Gcd.spec a0 a1).1 (safeint_Gcd.spec a0 a1).2 := by
 unfold safeint_Gcd.g safeint_Gcd.spec
 have e : safeint_common.spec (safeint_size.spec a0) (safeint_size.spec a1) = (Int.gcd a0 a1 : Int) := by
  unfold safeint_common.spec safeint_size.spec Int.gcd
  simp
 rw [e]
 simp only [safeint_signed.spec, cond_false]
 by_cases h : (Int.gcd a0 a1 : Int) ≤ 9223372036854775807
 ·
  rw [chk_t (by omega), decide_eq_true h]; rfl
 ·
  rw [chk_f (by omega), decide_eq_false h]; rfl
theorem safeint_Gcd.ok : FentOk P 105 safeint_Gcd.fent := fentOk_of (by kernel_rfl) fun ds hk => by
 obtain ⟨a0, l0, rfl, h0⟩ := ds_cons hk
 obtain ⟨a1, l1, rfl, h1⟩ := ds_cons h0
 obtain rfl := ds0 h1
 exact ⟨true, [.dat (.int .i64) (safeint_Gcd.spec a0 a1).1, .dat (.bool) (safeint_Gcd.spec a0 a1).2], fun h hw => safeint_Gcd.calls 18446744073709551616 a0 a1 (safeint_Gcd.law (Nat.le_refl _) a0 a1 hw.1 hw.2.1 _), fun α k => rfl⟩
end Go.VI
