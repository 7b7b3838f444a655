/- What the functions that SemiflowSums calls compute: printed out of the interpreter's normal forms (wip/vi/vigen.py) and proved. -/
import Derived.Test.YtongghfemdngdaaVi1
import Derived.Test.YtongghfemdngdaaProg
noncomputable section
namespace Go.VI
open Go Go.Proofs
def tys : Tys := [(1, .one none (.junk)),
  (2, .one (some (.int .i64)) (.d (.int .i64) (0 : Int))),
  (3, .one (some (.int .i64)) (.d (.int .i64) (0 : Int))),
  (4, .one (some (.bool)) (.d .bool false)),
  (5, .one (some (.int .u8)) (.d (.int .u8) (0 : Int))),
  (6, .one (some (.int .u8)) (.d (.int .u8) (0 : Int))),
  (7, .agg [(0, 2), (1, 3), (2, 4), (3, 6)] 4 (some (.st (.pr (.int .i64) (.pr (.int .i64) (.pr (.bool) (.int .u8)))))) [.d (.int .i64) (0 : Int), .d (.int .i64) (0 : Int), .d .bool false, .d (.int .u8) (0 : Int)]),
  (8, .agg [(0, 2), (1, 3), (2, 4), (3, 6)] 4 (some (.st (.pr (.int .i64) (.pr (.int .i64) (.pr (.bool) (.int .u8)))))) [.d (.int .i64) (0 : Int), .d (.int .i64) (0 : Int), .d .bool false, .d (.int .u8) (0 : Int)]),
  (9, .one (some (.str)) (.d .str ⟨#[]⟩)),
  (10, .one (some (.str)) (.d .str ⟨#[]⟩)),
  (11, .one (some (.str)) (.d .str ⟨#[]⟩)),
  (12, .one (some (.int .u64)) (.d (.int .u64) (0 : Int))),
  (15, .one none (.np)),
  (16, .one none (.np)),
  (17, .one none (.np)),
  (18, .agg [(0, 17)] 1 none [.np]),
  (19, .agg [(0, 17)] 1 none [.np]),
  (21, .one (some (.int .i32)) (.d (.int .i32) (0 : Int))),
  (22, .one (some (.sl (.sl (.int .i64)))) (.nil (.sl (.int .i64)))),
  (23, .one none (.junk)),
  (24, .one none (.junk)),
  (25, .one (some (.int .i64)) (.d (.int .i64) (0 : Int))),
  (27, .one none (.junk)),
  (28, .one none (.junk)),
  (29, .one none (.junk)),
  (30, .one (some (.sl (.st (.pr (.str) (.pr (.int .i64) (.int .i64)))))) (.nil (.st (.pr (.str) (.pr (.int .i64) (.int .i64)))))),
  (31, .one (some (.sl (.st (.pr (.str) (.pr (.sl (.st (.pr (.int .i64) (.int .i64)))) (.pr (.sl (.st (.pr (.int .i64) (.int .i64)))) (.pr (.sl (.st (.pr (.int .i64) (.int .i64)))) (.int .i64)))))))) (.nil (.st (.pr (.str) (.pr (.sl (.st (.pr (.int .i64) (.int .i64)))) (.pr (.sl (.st (.pr (.int .i64) (.int .i64)))) (.pr (.sl (.st (.pr (.int .i64) (.int .i64)))) (.int .i64)))))))),
  (32, .agg [(0, 9), (1, 30), (2, 31)] 3 (some (.st (.pr (.str) (.pr (.sl (.st (.pr (.str) (.pr (.int .i64) (.int .i64))))) (.sl (.st (.pr (.str) (.pr (.sl (.st (.pr (.int .i64) (.int .i64)))) (.pr (.sl (.st (.pr (.int .i64) (.int .i64)))) (.pr (.sl (.st (.pr (.int .i64) (.int .i64)))) (.int .i64))))))))))) [.d .str ⟨#[]⟩, .nil (.st (.pr (.str) (.pr (.int .i64) (.int .i64)))), .nil (.st (.pr (.str) (.pr (.sl (.st (.pr (.int .i64) (.int .i64)))) (.pr (.sl (.st (.pr (.int .i64) (.int .i64)))) (.pr (.sl (.st (.pr (.int .i64) (.int .i64)))) (.int .i64))))))]),
  (33, .agg [(0, 9), (1, 30), (2, 31)] 3 (some (.st (.pr (.str) (.pr (.sl (.st (.pr (.str) (.pr (.int .i64) (.int .i64))))) (.sl (.st (.pr (.str) (.pr (.sl (.st (.pr (.int .i64) (.int .i64)))) (.pr (.sl (.st (.pr (.int .i64) (.int .i64)))) (.pr (.sl (.st (.pr (.int .i64) (.int .i64)))) (.int .i64))))))))))) [.d .str ⟨#[]⟩, .nil (.st (.pr (.str) (.pr (.int .i64) (.int .i64)))), .nil (.st (.pr (.str) (.pr (.sl (.st (.pr (.int .i64) (.int .i64)))) (.pr (.sl (.st (.pr (.int .i64) (.int .i64)))) (.pr (.sl (.st (.pr (.int .i64) (.int .i64)))) (.int .i64))))))]),
  (34, .one none (.junk)),
  (35, .one none (.junk)),
  (36, .one (some (.sl (.int .i64))) (.nil (.int .i64))),
  (38, .one none (.junk)),
  (39, .one none (.junk)),
  (40, .one none (.junk)),
  (41, .one none (.junk)),
  (42, .one none (.junk)),
  (43, .one none (.junk)),
  (44, .one none (.junk)),
  (45, .one (some (.sl (.int .i64))) (.nil (.int .i64))),
  (46, .one none (.junk)),
  (48, .one none (.junk)),
  (49, .one none (.junk)),
  (50, .one none (.junk)),
  (51, .one (some (.sl (.st (.pr (.sl (.int .i64)) (.int .i64))))) (.nil (.st (.pr (.sl (.int .i64)) (.int .i64))))),
  (52, .one none (.junk)),
  (54, .one none (.junk)),
  (55, .one none (.junk)),
  (56, .one (some (.int .u64)) (.d (.int .u64) (0 : Int))),
  (57, .one none (.junk)),
  (59, .one none (.junk)),
  (61, .one none (.junk)),
  (62, .one none (.junk)),
  (64, .one none (.junk)),
  (65, .agg [(0, 9), (1, 3), (2, 3)] 3 (some (.st (.pr (.str) (.pr (.int .i64) (.int .i64))))) [.d .str ⟨#[]⟩, .d (.int .i64) (0 : Int), .d (.int .i64) (0 : Int)]),
  (66, .agg [(0, 9), (1, 3), (2, 3)] 3 (some (.st (.pr (.str) (.pr (.int .i64) (.int .i64))))) [.d .str ⟨#[]⟩, .d (.int .i64) (0 : Int), .d (.int .i64) (0 : Int)]),
  (67, .one (some (.sl (.st (.pr (.int .i64) (.int .i64))))) (.nil (.st (.pr (.int .i64) (.int .i64))))),
  (68, .agg [(0, 9), (1, 67), (2, 67), (3, 67), (4, 3)] 5 (some (.st (.pr (.str) (.pr (.sl (.st (.pr (.int .i64) (.int .i64)))) (.pr (.sl (.st (.pr (.int .i64) (.int .i64)))) (.pr (.sl (.st (.pr (.int .i64) (.int .i64)))) (.int .i64))))))) [.d .str ⟨#[]⟩, .nil (.st (.pr (.int .i64) (.int .i64))), .nil (.st (.pr (.int .i64) (.int .i64))), .nil (.st (.pr (.int .i64) (.int .i64))), .d (.int .i64) (0 : Int)]),
  (69, .agg [(0, 9), (1, 67), (2, 67), (3, 67), (4, 3)] 5 (some (.st (.pr (.str) (.pr (.sl (.st (.pr (.int .i64) (.int .i64)))) (.pr (.sl (.st (.pr (.int .i64) (.int .i64)))) (.pr (.sl (.st (.pr (.int .i64) (.int .i64)))) (.int .i64))))))) [.d .str ⟨#[]⟩, .nil (.st (.pr (.int .i64) (.int .i64))), .nil (.st (.pr (.int .i64) (.int .i64))), .nil (.st (.pr (.int .i64) (.int .i64))), .d (.int .i64) (0 : Int)]),
  (70, .one none (.junk)),
  (71, .one none (.junk)),
  (72, .one none (.junk)),
  (74, .one none (.junk)),
  (75, .one none (.junk)),
  (76, .agg [(0, 25), (1, 3)] 2 (some (.st (.pr (.int .i64) (.int .i64)))) [.d (.int .i64) (0 : Int), .d (.int .i64) (0 : Int)]),
  (77, .agg [(0, 25), (1, 3)] 2 (some (.st (.pr (.int .i64) (.int .i64)))) [.d (.int .i64) (0 : Int), .d (.int .i64) (0 : Int)]),
  (78, .one none (.junk)),
  (79, .one none (.junk)),
  (80, .one none (.junk)),
  (81, .one none (.junk)),
  (82, .agg [(0, 3), (1, 3)] 2 (some (.st (.pr (.int .i64) (.int .i64)))) [.d (.int .i64) (0 : Int), .d (.int .i64) (0 : Int)]),
  (83, .agg [(0, 3), (1, 3)] 2 (some (.st (.pr (.int .i64) (.int .i64)))) [.d (.int .i64) (0 : Int), .d (.int .i64) (0 : Int)]),
  (84, .agg [(0, 36), (1, 3)] 2 (some (.st (.pr (.sl (.int .i64)) (.int .i64)))) [.nil (.int .i64), .d (.int .i64) (0 : Int)]),
  (85, .agg [(0, 36), (1, 3)] 2 (some (.st (.pr (.sl (.int .i64)) (.int .i64)))) [.nil (.int .i64), .d (.int .i64) (0 : Int)]),
  (86, .one none (.junk)),
  (87, .one none (.junk)),
  (89, .one none (.junk)),
  (90, .one none (.junk)),
  (91, .one none (.junk)),
  (92, .one none (.junk)),
  (93, .one none (.junk)),
  (95, .one none (.junk)),
  (96, .one none (.junk)),
  (97, .one none (.junk)),
  (98, .one none (.junk)),
  (99, .one none (.junk)),
  (100, .agg [(0, 4), (1, 56), (2, 56)] 3 (some (.st (.pr (.bool) (.pr (.int .u64) (.int .u64))))) [.d .bool false, .d (.int .u64) (0 : Int), .d (.int .u64) (0 : Int)]),
  (101, .agg [(0, 4), (1, 56), (2, 56)] 3 (some (.st (.pr (.bool) (.pr (.int .u64) (.int .u64))))) [.d .bool false, .d (.int .u64) (0 : Int), .d (.int .u64) (0 : Int)]),
  (102, .one none (.junk)),
  (103, .one none (.junk)),
  (104, .one (some (.sl (.str))) (.nil (.str))),
  (105, .one none (.junk)),
  (106, .one none (.junk)),
  (107, .one none (.junk)),
  (108, .one none (.junk)),
  (109, .one none (.junk)),
  (110, .one none (.junk)),
  (111, .one none (.junk)),
  (112, .one none (.junk)),
  (113, .one none (.junk)),
  (114, .one none (.junk)),
  (115, .one (some (.sl (.int .u64))) (.nil (.int .u64))),
  (116, .one none (.junk)),
  (117, .one none (.junk)),
  (118, .one none (.junk)),
  (119, .one none (.junk)),
  (120, .one none (.junk)),
  (121, .one (some (.sl (.sl (.st (.pr (.int .i64) (.int .i64)))))) (.nil (.sl (.st (.pr (.int .i64) (.int .i64)))))),
  (122, .one none (.junk)),
  (123, .one none (.junk)),
  (124, .one none (.junk)),
  (125, .one (some (.int .u64)) (.d (.int .u64) (0 : Int))),
  (126, .one none (.junk)),
  (127, .one none (.junk)),
  (128, .one none (.junk)),
  (129, .arr 56 2 2 (some (.st (.pr (.int .u64) (.int .u64)))) [.d (.int .u64) (0 : Int), .d (.int .u64) (0 : Int)]),
  (130, .one none (.junk)),
  (131, .one none (.junk)),
  (132, .one none (.junk)),
  (133, .one none (.junk)),
  (134, .agg [(0, 17), (1, 17), (2, 17), (3, 9)] 4 none [.np, .np, .np, .d .str ⟨#[]⟩]),
  (135, .agg [(0, 17), (1, 17), (2, 17), (3, 9)] 4 none [.np, .np, .np, .d .str ⟨#[]⟩]),
  (136, .arr 16 0 0 none []),
  (139, .one none (.junk)),
  (140, .one (some (.int .u32)) (.d (.int .u32) (0 : Int))),
  (141, .one (some (.int .u8)) (.d (.int .u8) (0 : Int))),
  (142, .one (some (.int .u8)) (.d (.int .u8) (0 : Int))),
  (143, .one none (.junk)),
  (144, .one none (.np)),
  (145, .one (some (.int .i32)) (.d (.int .i32) (0 : Int))),
  (146, .one (some (.int .i32)) (.d (.int .i32) (0 : Int))),
  (147, .agg [(0, 12), (1, 12), (2, 140), (3, 141), (4, 5), (5, 5), (6, 142), (7, 143), (8, 144), (9, 145), (10, 146)] 11 none [.d (.int .u64) (0 : Int), .d (.int .u64) (0 : Int), .d (.int .u32) (0 : Int), .d (.int .u8) (0 : Int), .d (.int .u8) (0 : Int), .d (.int .u8) (0 : Int), .d (.int .u8) (0 : Int), .junk, .np, .d (.int .i32) (0 : Int), .d (.int .i32) (0 : Int)]),
  (148, .agg [(0, 12), (1, 12), (2, 140), (3, 141), (4, 5), (5, 5), (6, 142), (7, 143), (8, 144), (9, 145), (10, 146)] 11 none [.d (.int .u64) (0 : Int), .d (.int .u64) (0 : Int), .d (.int .u32) (0 : Int), .d (.int .u8) (0 : Int), .d (.int .u8) (0 : Int), .d (.int .u8) (0 : Int), .d (.int .u8) (0 : Int), .junk, .np, .d (.int .i32) (0 : Int), .d (.int .i32) (0 : Int)]),
  (149, .one none (.junk))]

@[reducible] noncomputable def P : Program := Try.prog
def tysD : Tys := [(1, .one none (.junk)),
  (2, .one (some (.int .i64)) (.d (.int .i64) (0 : Int))),
  (3, .one (some (.int .i64)) (.d (.int .i64) (0 : Int))),
  (4, .one (some (.bool)) (.d .bool false)),
  (5, .one (some (.int .u8)) (.d (.int .u8) (0 : Int))),
  (6, .one (some (.int .u8)) (.d (.int .u8) (0 : Int))),
  (7, .agg [(0, 2), (1, 3), (2, 4), (3, 6)] 4 (some (.st (.pr (.int .i64) (.pr (.int .i64) (.pr (.bool) (.int .u8)))))) [.d (.int .i64) (0 : Int), .d (.int .i64) (0 : Int), .d .bool false, .d (.int .u8) (0 : Int)]),
  (8, .agg [(0, 2), (1, 3), (2, 4), (3, 6)] 4 (some (.st (.pr (.int .i64) (.pr (.int .i64) (.pr (.bool) (.int .u8)))))) [.d (.int .i64) (0 : Int), .d (.int .i64) (0 : Int), .d .bool false, .d (.int .u8) (0 : Int)]),
  (9, .one (some (.str)) (.d .str ⟨#[]⟩)),
  (10, .one (some (.str)) (.d .str ⟨#[]⟩)),
  (11, .one (some (.str)) (.d .str ⟨#[]⟩)),
  (12, .one (some (.int .u64)) (.d (.int .u64) (0 : Int))),
  (15, .one none (.np)),
  (16, .one none (.np)),
  (17, .one none (.np)),
  (18, .agg [(0, 17)] 1 none [.np]),
  (19, .agg [(0, 17)] 1 none [.np]),
  (21, .one (some (.int .i32)) (.d (.int .i32) (0 : Int))),
  (22, .one (some (.sl (.sl (.int .i64)))) .nil0),
  (23, .one none (.junk)),
  (24, .one none (.junk)),
  (25, .one (some (.int .i64)) (.d (.int .i64) (0 : Int))),
  (27, .one none (.junk)),
  (28, .one none (.junk)),
  (29, .one none (.junk)),
  (30, .one (some (.sl (.st (.pr (.str) (.pr (.int .i64) (.int .i64)))))) (.nil (.st (.pr (.str) (.pr (.int .i64) (.int .i64)))))),
  (31, .one (some (.sl (.st (.pr (.str) (.pr (.sl (.st (.pr (.int .i64) (.int .i64)))) (.pr (.sl (.st (.pr (.int .i64) (.int .i64)))) (.pr (.sl (.st (.pr (.int .i64) (.int .i64)))) (.int .i64)))))))) (.nil (.st (.pr (.str) (.pr (.sl (.st (.pr (.int .i64) (.int .i64)))) (.pr (.sl (.st (.pr (.int .i64) (.int .i64)))) (.pr (.sl (.st (.pr (.int .i64) (.int .i64)))) (.int .i64)))))))),
  (32, .agg [(0, 9), (1, 30), (2, 31)] 3 (some (.st (.pr (.str) (.pr (.sl (.st (.pr (.str) (.pr (.int .i64) (.int .i64))))) (.sl (.st (.pr (.str) (.pr (.sl (.st (.pr (.int .i64) (.int .i64)))) (.pr (.sl (.st (.pr (.int .i64) (.int .i64)))) (.pr (.sl (.st (.pr (.int .i64) (.int .i64)))) (.int .i64))))))))))) [.d .str ⟨#[]⟩, .nil (.st (.pr (.str) (.pr (.int .i64) (.int .i64)))), .nil (.st (.pr (.str) (.pr (.sl (.st (.pr (.int .i64) (.int .i64)))) (.pr (.sl (.st (.pr (.int .i64) (.int .i64)))) (.pr (.sl (.st (.pr (.int .i64) (.int .i64)))) (.int .i64))))))]),
  (33, .agg [(0, 9), (1, 30), (2, 31)] 3 (some (.st (.pr (.str) (.pr (.sl (.st (.pr (.str) (.pr (.int .i64) (.int .i64))))) (.sl (.st (.pr (.str) (.pr (.sl (.st (.pr (.int .i64) (.int .i64)))) (.pr (.sl (.st (.pr (.int .i64) (.int .i64)))) (.pr (.sl (.st (.pr (.int .i64) (.int .i64)))) (.int .i64))))))))))) [.d .str ⟨#[]⟩, .nil (.st (.pr (.str) (.pr (.int .i64) (.int .i64)))), .nil (.st (.pr (.str) (.pr (.sl (.st (.pr (.int .i64) (.int .i64)))) (.pr (.sl (.st (.pr (.int .i64) (.int .i64)))) (.pr (.sl (.st (.pr (.int .i64) (.int .i64)))) (.int .i64))))))]),
  (34, .one none (.junk)),
  (35, .one none (.junk)),
  (36, .one (some (.sl (.int .i64))) (.nil (.int .i64))),
  (38, .one none (.junk)),
  (39, .one none (.junk)),
  (40, .one none (.junk)),
  (41, .one none (.junk)),
  (42, .one none (.junk)),
  (43, .one none (.junk)),
  (44, .one none (.junk)),
  (45, .one (some (.sl (.int .i64))) (.nil (.int .i64))),
  (46, .one none (.junk)),
  (48, .one none (.junk)),
  (49, .one none (.junk)),
  (50, .one none (.junk)),
  (51, .one (some (.sl (.st (.pr (.sl (.int .i64)) (.int .i64))))) (.nil (.st (.pr (.sl (.int .i64)) (.int .i64))))),
  (52, .one none (.junk)),
  (54, .one none (.junk)),
  (55, .one none (.junk)),
  (56, .one (some (.int .u64)) (.d (.int .u64) (0 : Int))),
  (57, .one none (.junk)),
  (59, .one none (.junk)),
  (61, .one none (.junk)),
  (62, .one none (.junk)),
  (64, .one none (.junk)),
  (65, .agg [(0, 9), (1, 3), (2, 3)] 3 (some (.st (.pr (.str) (.pr (.int .i64) (.int .i64))))) [.d .str ⟨#[]⟩, .d (.int .i64) (0 : Int), .d (.int .i64) (0 : Int)]),
  (66, .agg [(0, 9), (1, 3), (2, 3)] 3 (some (.st (.pr (.str) (.pr (.int .i64) (.int .i64))))) [.d .str ⟨#[]⟩, .d (.int .i64) (0 : Int), .d (.int .i64) (0 : Int)]),
  (67, .one (some (.sl (.st (.pr (.int .i64) (.int .i64))))) (.nil (.st (.pr (.int .i64) (.int .i64))))),
  (68, .agg [(0, 9), (1, 67), (2, 67), (3, 67), (4, 3)] 5 (some (.st (.pr (.str) (.pr (.sl (.st (.pr (.int .i64) (.int .i64)))) (.pr (.sl (.st (.pr (.int .i64) (.int .i64)))) (.pr (.sl (.st (.pr (.int .i64) (.int .i64)))) (.int .i64))))))) [.d .str ⟨#[]⟩, .nil (.st (.pr (.int .i64) (.int .i64))), .nil (.st (.pr (.int .i64) (.int .i64))), .nil (.st (.pr (.int .i64) (.int .i64))), .d (.int .i64) (0 : Int)]),
  (69, .agg [(0, 9), (1, 67), (2, 67), (3, 67), (4, 3)] 5 (some (.st (.pr (.str) (.pr (.sl (.st (.pr (.int .i64) (.int .i64)))) (.pr (.sl (.st (.pr (.int .i64) (.int .i64)))) (.pr (.sl (.st (.pr (.int .i64) (.int .i64)))) (.int .i64))))))) [.d .str ⟨#[]⟩, .nil (.st (.pr (.int .i64) (.int .i64))), .nil (.st (.pr (.int .i64) (.int .i64))), .nil (.st (.pr (.int .i64) (.int .i64))), .d (.int .i64) (0 : Int)]),
  (70, .one none (.junk)),
  (71, .one none (.junk)),
  (72, .one none (.junk)),
  (74, .one none (.junk)),
  (75, .one none (.junk)),
  (76, .agg [(0, 25), (1, 3)] 2 (some (.st (.pr (.int .i64) (.int .i64)))) [.d (.int .i64) (0 : Int), .d (.int .i64) (0 : Int)]),
  (77, .agg [(0, 25), (1, 3)] 2 (some (.st (.pr (.int .i64) (.int .i64)))) [.d (.int .i64) (0 : Int), .d (.int .i64) (0 : Int)]),
  (78, .one none (.junk)),
  (79, .one none (.junk)),
  (80, .one none (.junk)),
  (81, .one none (.junk)),
  (82, .agg [(0, 3), (1, 3)] 2 (some (.st (.pr (.int .i64) (.int .i64)))) [.d (.int .i64) (0 : Int), .d (.int .i64) (0 : Int)]),
  (83, .agg [(0, 3), (1, 3)] 2 (some (.st (.pr (.int .i64) (.int .i64)))) [.d (.int .i64) (0 : Int), .d (.int .i64) (0 : Int)]),
  (84, .agg [(0, 36), (1, 3)] 2 (some (.st (.pr (.sl (.int .i64)) (.int .i64)))) [.nil (.int .i64), .d (.int .i64) (0 : Int)]),
  (85, .agg [(0, 36), (1, 3)] 2 (some (.st (.pr (.sl (.int .i64)) (.int .i64)))) [.nil (.int .i64), .d (.int .i64) (0 : Int)]),
  (86, .one none (.junk)),
  (87, .one none (.junk)),
  (89, .one none (.junk)),
  (90, .one none (.junk)),
  (91, .one none (.junk)),
  (92, .one none (.junk)),
  (93, .one none (.junk)),
  (95, .one none (.junk)),
  (96, .one none (.junk)),
  (97, .one none (.junk)),
  (98, .one none (.junk)),
  (99, .one none (.junk)),
  (100, .agg [(0, 4), (1, 56), (2, 56)] 3 (some (.st (.pr (.bool) (.pr (.int .u64) (.int .u64))))) [.d .bool false, .d (.int .u64) (0 : Int), .d (.int .u64) (0 : Int)]),
  (101, .agg [(0, 4), (1, 56), (2, 56)] 3 (some (.st (.pr (.bool) (.pr (.int .u64) (.int .u64))))) [.d .bool false, .d (.int .u64) (0 : Int), .d (.int .u64) (0 : Int)]),
  (102, .one none (.junk)),
  (103, .one none (.junk)),
  (104, .one (some (.sl (.str))) (.nil (.str))),
  (105, .one none (.junk)),
  (106, .one none (.junk)),
  (107, .one none (.junk)),
  (108, .one none (.junk)),
  (109, .one none (.junk)),
  (110, .one none (.junk)),
  (111, .one none (.junk)),
  (112, .one none (.junk)),
  (113, .one none (.junk)),
  (114, .one none (.junk)),
  (115, .one (some (.sl (.int .u64))) (.nil (.int .u64))),
  (116, .one none (.junk)),
  (117, .one none (.junk)),
  (118, .one none (.junk)),
  (119, .one none (.junk)),
  (120, .one none (.junk)),
  (121, .one (some (.sl (.sl (.st (.pr (.int .i64) (.int .i64)))))) .nil0),
  (122, .one none (.junk)),
  (123, .one none (.junk)),
  (124, .one none (.junk)),
  (125, .one (some (.int .u64)) (.d (.int .u64) (0 : Int))),
  (126, .one none (.junk)),
  (127, .one none (.junk)),
  (128, .one none (.junk)),
  (129, .arr 56 2 2 (some (.st (.pr (.int .u64) (.int .u64)))) [.d (.int .u64) (0 : Int), .d (.int .u64) (0 : Int)]),
  (130, .one none (.junk)),
  (131, .one none (.junk)),
  (132, .one none (.junk)),
  (133, .one none (.junk)),
  (134, .agg [(0, 17), (1, 17), (2, 17), (3, 9)] 4 none [.np, .np, .np, .d .str ⟨#[]⟩]),
  (135, .agg [(0, 17), (1, 17), (2, 17), (3, 9)] 4 none [.np, .np, .np, .d .str ⟨#[]⟩]),
  (136, .arr 16 0 0 none []),
  (139, .one none (.junk)),
  (140, .one (some (.int .u32)) (.d (.int .u32) (0 : Int))),
  (141, .one (some (.int .u8)) (.d (.int .u8) (0 : Int))),
  (142, .one (some (.int .u8)) (.d (.int .u8) (0 : Int))),
  (143, .one none (.junk)),
  (144, .one none (.np)),
  (145, .one (some (.int .i32)) (.d (.int .i32) (0 : Int))),
  (146, .one (some (.int .i32)) (.d (.int .i32) (0 : Int))),
  (147, .agg [(0, 12), (1, 12), (2, 140), (3, 141), (4, 5), (5, 5), (6, 142), (7, 143), (8, 144), (9, 145), (10, 146)] 11 none [.d (.int .u64) (0 : Int), .d (.int .u64) (0 : Int), .d (.int .u32) (0 : Int), .d (.int .u8) (0 : Int), .d (.int .u8) (0 : Int), .d (.int .u8) (0 : Int), .d (.int .u8) (0 : Int), .junk, .np, .d (.int .i32) (0 : Int), .d (.int .i32) (0 : Int)]),
  (148, .agg [(0, 12), (1, 12), (2, 140), (3, 141), (4, 5), (5, 5), (6, 142), (7, 143), (8, 144), (9, 145), (10, 146)] 11 none [.d (.int .u64) (0 : Int), .d (.int .u64) (0 : Int), .d (.int .u32) (0 : Int), .d (.int .u8) (0 : Int), .d (.int .u8) (0 : Int), .d (.int .u8) (0 : Int), .d (.int .u8) (0 : Int), .junk, .np, .d (.int .i32) (0 : Int), .d (.int .i32) (0 : Int)]),
  (149, .one none (.junk))]

theorem tysDOk : tysB P tysD = true := by kernel_rfl
theorem tysOk : tysB P tys = true := by kernel_rfl
theorem mixedOk : P.follows .mixedOrders = true := by kernel_rfl
end Go.VI
noncomputable section
namespace Go.VI
open Go Go.Proofs
set_option linter.unusedVariables false
/-- In the range of int64. -/
def inI64 (x : Int) : Bool := decide (-9223372036854775808 ≤ x) && decide (x ≤ 9223372036854775807)
/-- A number or none. -/
def chk (x : Int) : Int × Bool := cond (inI64 x) (x, true) (0, false)
-- FN safeint.Add
def safeint_Add.spec (a b : Int) : Int × Bool := chk (a + b)
-- FN safeint.Sub
def safeint_Sub.spec (a b : Int) : Int × Bool := chk (a - b)
/-- An operation on the elements of two lists. -/
def vecOp (op : Int → Int → Int) : List Int → List Int → Option (List Int)
  | x :: xs, y :: ys => cond (inI64 (op x y)) ((vecOp op xs ys).map (op x y :: ·)) none
  | _, _ => some []
def vecRes (op : Int → Int → Int) (a b : List Int) : List Int × Int := cond (Nat.beq a.length b.length) (match vecOp op a b with
  | some r => (r, 0)
  | none => ([], 3)) ([], 2)
def vector_Add.pre (a b : List Int) : Bool := decide (a.length ≤ 1073741824)
-- FN vector.Add pre=1
def vector_Add.spec (a b : List Int) : List Int × Int := vecRes (· + ·) a b
-- FN petrinetref01.Abs
def petrinetref01_Abs.spec (a : Int) : Int := cond (decide (a < 0)) (-a) a
-- FN petrinetref01.Plus
def petrinetref01_Plus.spec (a b : Int) : Bool × Int × Int := (decide (a + b < 0), cond (decide (a + b = -18446744073709551616)) 1 0, cond (decide (a + b = -18446744073709551616)) 0 (cond (decide (a + b < 0)) (-(a + b)) (a + b)))
-- FN petrinetref01.Narrow
def petrinetref01_Narrow.spec (w : Bool × Int × Int) : Int × Bool := chk (cond w.1 (-(w.2.1 * 18446744073709551616 + w.2.2)) (w.2.1 * 18446744073709551616 + w.2.2))
-- FN petrinetref01.Add
def petrinetref01_Add.spec (a b : Int) : Int × Bool := chk (a + b)
-- FN petrinetref08.Vectors
def petrinetref08_Vectors.spec (a b : List Int) : Bool := decide (a = b)

-- FN net.Incidence own=0
def net_Incidence.spec (n : ByteArray × List (ByteArray × Int × Int) × List (ByteArray × List (Int × Int) × List (Int × Int) × List (Int × Int) × Int)) : List (List Int) :=
  n.2.1.length.fold (fun p _ acc => acc ++ [n.2.2.map fun t => ((t.2.2.1.find? fun a => a.1 == (p : Int)).elim 0 (·.2)) - ((t.2.1.find? fun a => a.1 == (p : Int)).elim 0 (·.2))]) []
-- FN matrix.Transpose own=0
def matrix_Transpose.spec (a : List (List Int)) : List (List Int) := (List.range (a.headD []).length).map fun c => a.map fun r => r.getD c 0

abbrev ArcT := Int × Int
abbrev PlaceT := ByteArray × Int × Int
abbrev TransT := ByteArray × List (Int × Int) × List (Int × Int) × List (Int × Int) × Int
abbrev NetT := ByteArray × List (ByteArray × Int × Int) × List (ByteArray × List (Int × Int) × List (Int × Int) × List (Int × Int) × Int)
def letterB (c : UInt8) : Bool := (Nat.ble 97 c.toNat && Nat.ble c.toNat 122) || Nat.beq c.toNat 95
def otherB (c : UInt8) : Bool := (Nat.ble 48 c.toNat && Nat.ble c.toNat 57) || Nat.beq c.toNat 46
def nameL : List UInt8 → Bool
  | [] => false
  | c :: l => letterB c && (l.all fun c => letterB c || otherB c)
def nameOk (s : ByteArray) : Bool := Nat.ble s.data.toList.length 16 && nameL s.data.toList
-- FN net.Name
def net_Name.spec (s : ByteArray) : Bool := nameOk s
-- FN petrinetref09.Name
def petrinetref09_Name.spec (s : ByteArray) : Bool := nameOk s
/-- The first error of a list of arcs; prev: the place before. -/
def arcsE (np : Int) : Option Int → List (Int × Int) → Int
  | _, [] => 0
  | prev, a :: l => cond (decide (a.1 < 0) || decide (np ≤ a.1)) 7 (cond (match prev with | some q => decide (a.1 ≤ q) | none => false) 8 (cond (decide (a.2 < 1) || decide (99 < a.2)) 9 (arcsE np (some a.1) l)))
-- FN net.checkArcs
def net_checkArcs.spec (l : List (Int × Int)) (np : Int) : Int := arcsE np none l
def placeE (p : ByteArray × Int × Int) : Int := cond (decide (p.2.2 < 0) || decide (1048576 < p.2.2)) 1 (cond ((decide (p.2.1 < 0) || decide (1048576 < p.2.1)) || (!(p.2.2 == 0) && decide (p.2.2 < p.2.1))) 10 0)
-- FN net.checkPlace
def net_checkPlace.spec (p : ByteArray × Int × Int) : Int := placeE p
def transE (t : TransT) (np : Int) : Int := cond (decide (t.2.2.2.2 < 0) || decide (9 < t.2.2.2.2)) 1 (cond (arcsE np none t.2.1 == 0) (cond (arcsE np none t.2.2.1 == 0) (arcsE np none t.2.2.2.1) (arcsE np none t.2.2.1)) (arcsE np none t.2.1))
-- FN net.checkTrans
def net_checkTrans.spec (t : TransT) (np : Int) : Int := transE t np
-- FN marking.Valid
def marking_Valid.spec (m : List Int) (n : Int) : Bool := decide ((m.length : Int) = n) && m.all fun k => decide (0 ≤ k) && decide (k ≤ 1048576)
/-- What the name does among the names. -/
def addE (names : List ByteArray) (s : ByteArray) : Int := cond (nameOk s) (cond (names.any fun o => sEq o s) 6 0) 5
def placesE : List ByteArray → Int → List (ByteArray × Int × Int) → Option (Int × Int)
  | _, _, [] => none
  | names, i, p :: l => cond (addE names p.1 == 0) (cond (placeE p == 0) (placesE (names ++ [p.1]) (i + 1) l) (some (placeE p, i))) (some (addE names p.1, i))
def transesE (np : Int) : List ByteArray → Int → List TransT → Option (Int × Int)
  | _, _, [] => none
  | names, i, t :: l => cond (addE names t.1 == 0) (cond (transE t np == 0) (transesE np (names ++ [t.1]) (i + 1) l) (some (transE t np, np + i))) (some (addE names t.1, np + i))
def checkN (n : NetT) : Int × Int := cond (nameOk n.1) (cond (decide (n.2.1.length < 1) || decide (24 < n.2.1.length) || decide (24 < n.2.2.length)) (2, 0) (match placesE [] 0 n.2.1 with
  | some r => r
  | none => match transesE (n.2.1.length : Int) (n.2.1.map (·.1)) 0 n.2.2 with
    | some r => r
    | none => (0, 0))) (5, 0)
-- FN net.Check
def net_Check.spec (n : NetT) : Int × Int := checkN n
def weightS : List (Int × Int) → Int → Int
  | [], _ => 0
  | a :: l, p => cond (a.1 == p) a.2 (weightS l p)
-- FN net.weight draw=1
def net_weight.spec (l : List (Int × Int)) (p : Int) : Int := weightS l p
-- FN petrinetref09.Weight
def petrinetref09_Weight.spec (l : List (Int × Int)) (p : Int) : Int := weightS l p

/-- Is there an element other than 0 at i? -/
def nz (i : Int) (v : List Int) : Bool := decide (i < (v.length : Int)) && !(v.getD i.toNat 0 == 0)
def coveredS (flows : List (List Int)) (k : Int) : Bool := (List.range k.toNat).all fun i => flows.any fun v => nz i v
-- FN semiflow.Covered
def semiflow_Covered.spec (flows : List (List Int)) (k : Int) : Bool := coveredS flows k
-- FN petrinetref31.Covered
def petrinetref31_Covered.spec (flows : List (List Int)) (k : Int) : Bool := coveredS flows k
/-- The sum of vectors, one after the other. -/
def sumVs : List Int → List (List Int) → List Int × Int
  | acc, [] => (acc, 0)
  | acc, v :: vs => match vecOp (· + ·) acc v with
    | some r => sumVs r vs
    | none => ([], 3)
def sumS (flows : List (List Int)) : List Int × Int := match flows with
  | [] => ([], 2)
  | v :: vs => cond (vs.all fun u => Nat.beq u.length v.length) (sumVs (List.replicate v.length 0) flows) ([], 2)
-- FN semiflow.Sum pre=1
def semiflow_Sum.pre (flows : List (List Int)) : Bool := flows.all fun v => decide (v.length ≤ 1073741824)
def semiflow_Sum.spec (flows : List (List Int)) : List Int × Int := sumS flows
-- FN petrinetref31.Sum pre=1
def petrinetref31_Sum.pre (flows : List (List Int)) : Bool := flows.all fun v => decide (v.length ≤ 1073741824)
def petrinetref31_Sum.spec (flows : List (List Int)) : List Int × Int := sumS flows
-- FN petrinetlaw31.short
def petrinetlaw31_short.spec (a : List (List Int)) : Bool := decide (a.length ≤ 20) && a.all fun r => decide (r.length ≤ 20)
-- FN petrinetlaw31.lives memo=cycPlaces,cycTrans,solve31
def petrinetlaw31_lives.spec : Bool := true
-- FN petrinetlaw31.SemiflowSums
def petrinetlaw31_SemiflowSums.spec (flows : List (List Int)) (k : Int) : Bool := true

def safeint_Add.ks : List K := [.int .i64, .int .i64]
def safeint_Add.fent : Fent := ⟨safeint_Add.ks, fun α ds k => match ds with
  | [d0, d1] => match d0.get (.int .i64), d1.get (.int .i64) with
    | some a0, some a1 => k [.dat (.int .i64) (safeint_Add.spec a0 a1).1, .dat (.bool) (safeint_Add.spec a0 a1).2]
    | _, _ => none
  | _ => none⟩
def vector_Add.ks : List K := [.sl (.int .i64), .sl (.int .i64)]
def vector_Add.fent : Fent := ⟨vector_Add.ks, fun α ds k => match ds with
  | [d0, d1] => match d0.get (.sl (.int .i64)), d1.get (.sl (.int .i64)) with
    | some a0, some a1 => cond (vector_Add.pre a0 a1) (k [.own (.int .i64) (vector_Add.spec a0 a1).1, .dat (.int .i64) (vector_Add.spec a0 a1).2]) none
    | _, _ => none
  | _ => none⟩
def petrinetref01_Abs.ks : List K := [.int .i64]
def petrinetref01_Abs.fent : Fent := ⟨petrinetref01_Abs.ks, fun α ds k => match ds with
  | [d0] => match d0.get (.int .i64) with
    | some a0 => k [.dat (.int .u64) (petrinetref01_Abs.spec a0)]
    | _ => none
  | _ => none⟩
def petrinetref01_Plus.ks : List K := [.int .i64, .int .i64]
def petrinetref01_Plus.fent : Fent := ⟨petrinetref01_Plus.ks, fun α ds k => match ds with
  | [d0, d1] => match d0.get (.int .i64), d1.get (.int .i64) with
    | some a0, some a1 => k [.dat (.st (.pr (.bool) (.pr (.int .u64) (.int .u64)))) (petrinetref01_Plus.spec a0 a1)]
    | _, _ => none
  | _ => none⟩
def petrinetref01_Narrow.ks : List K := [.st (.pr (.bool) (.pr (.int .u64) (.int .u64)))]
def petrinetref01_Narrow.fent : Fent := ⟨petrinetref01_Narrow.ks, fun α ds k => match ds with
  | [d0] => match d0.get (.st (.pr (.bool) (.pr (.int .u64) (.int .u64)))) with
    | some a0 => k [.dat (.int .i64) (petrinetref01_Narrow.spec a0).1, .dat (.bool) (petrinetref01_Narrow.spec a0).2]
    | _ => none
  | _ => none⟩
def petrinetref01_Add.ks : List K := [.int .i64, .int .i64]
def petrinetref01_Add.fent : Fent := ⟨petrinetref01_Add.ks, fun α ds k => match ds with
  | [d0, d1] => match d0.get (.int .i64), d1.get (.int .i64) with
    | some a0, some a1 => k [.dat (.int .i64) (petrinetref01_Add.spec a0 a1).1, .dat (.bool) (petrinetref01_Add.spec a0 a1).2]
    | _, _ => none
  | _ => none⟩
def petrinetref08_Vectors.ks : List K := [.sl (.int .i64), .sl (.int .i64)]
def petrinetref08_Vectors.fent : Fent := ⟨petrinetref08_Vectors.ks, fun α ds k => match ds with
  | [d0, d1] => match d0.get (.sl (.int .i64)), d1.get (.sl (.int .i64)) with
    | some a0, some a1 => k [.dat (.bool) (petrinetref08_Vectors.spec a0 a1)]
    | _, _ => none
  | _ => none⟩
def net_Incidence.ks : List K := [.st (.pr (.str) (.pr (.sl (.st (.pr (.str) (.pr (.int .i64) (.int .i64))))) (.sl (.st (.pr (.str) (.pr (.sl (.st (.pr (.int .i64) (.int .i64)))) (.pr (.sl (.st (.pr (.int .i64) (.int .i64)))) (.pr (.sl (.st (.pr (.int .i64) (.int .i64)))) (.int .i64)))))))))]
def net_Incidence.fent : Fent := ⟨net_Incidence.ks, fun α ds k => match ds with
  | [d0] => match d0.get (.st (.pr (.str) (.pr (.sl (.st (.pr (.str) (.pr (.int .i64) (.int .i64))))) (.sl (.st (.pr (.str) (.pr (.sl (.st (.pr (.int .i64) (.int .i64)))) (.pr (.sl (.st (.pr (.int .i64) (.int .i64)))) (.pr (.sl (.st (.pr (.int .i64) (.int .i64)))) (.int .i64)))))))))) with
    | some a0 => k [.dat (.sl (.sl (.int .i64))) (net_Incidence.spec a0)]
    | _ => none
  | _ => none⟩
def matrix_Transpose.ks : List K := [.sl (.sl (.int .i64))]
def matrix_Transpose.fent : Fent := ⟨matrix_Transpose.ks, fun α ds k => match ds with
  | [d0] => match d0.get (.sl (.sl (.int .i64))) with
    | some a0 => k [.dat (.sl (.sl (.int .i64))) (matrix_Transpose.spec a0)]
    | _ => none
  | _ => none⟩
def net_Name.ks : List K := [.str]
def net_Name.fent : Fent := ⟨net_Name.ks, fun α ds k => match ds with
  | [d0] => match d0.get (.str) with
    | some a0 => k [.dat (.bool) (net_Name.spec a0)]
    | _ => none
  | _ => none⟩
def petrinetref09_Name.ks : List K := [.str]
def petrinetref09_Name.fent : Fent := ⟨petrinetref09_Name.ks, fun α ds k => match ds with
  | [d0] => match d0.get (.str) with
    | some a0 => k [.dat (.bool) (petrinetref09_Name.spec a0)]
    | _ => none
  | _ => none⟩
def net_checkArcs.ks : List K := [.sl (.st (.pr (.int .i64) (.int .i64))), .int .i64]
def net_checkArcs.fent : Fent := ⟨net_checkArcs.ks, fun α ds k => match ds with
  | [d0, d1] => match d0.get (.sl (.st (.pr (.int .i64) (.int .i64)))), d1.get (.int .i64) with
    | some a0, some a1 => k [.dat (.int .i64) (net_checkArcs.spec a0 a1)]
    | _, _ => none
  | _ => none⟩
def net_checkPlace.ks : List K := [.st (.pr (.str) (.pr (.int .i64) (.int .i64)))]
def net_checkPlace.fent : Fent := ⟨net_checkPlace.ks, fun α ds k => match ds with
  | [d0] => match d0.get (.st (.pr (.str) (.pr (.int .i64) (.int .i64)))) with
    | some a0 => k [.dat (.int .i64) (net_checkPlace.spec a0)]
    | _ => none
  | _ => none⟩
def net_checkTrans.ks : List K := [.st (.pr (.str) (.pr (.sl (.st (.pr (.int .i64) (.int .i64)))) (.pr (.sl (.st (.pr (.int .i64) (.int .i64)))) (.pr (.sl (.st (.pr (.int .i64) (.int .i64)))) (.int .i64))))), .int .i64]
def net_checkTrans.fent : Fent := ⟨net_checkTrans.ks, fun α ds k => match ds with
  | [d0, d1] => match d0.get (.st (.pr (.str) (.pr (.sl (.st (.pr (.int .i64) (.int .i64)))) (.pr (.sl (.st (.pr (.int .i64) (.int .i64)))) (.pr (.sl (.st (.pr (.int .i64) (.int .i64)))) (.int .i64)))))), d1.get (.int .i64) with
    | some a0, some a1 => k [.dat (.int .i64) (net_checkTrans.spec a0 a1)]
    | _, _ => none
  | _ => none⟩
def marking_Valid.ks : List K := [.sl (.int .i64), .int .i64]
def marking_Valid.fent : Fent := ⟨marking_Valid.ks, fun α ds k => match ds with
  | [d0, d1] => match d0.get (.sl (.int .i64)), d1.get (.int .i64) with
    | some a0, some a1 => k [.dat (.bool) (marking_Valid.spec a0 a1)]
    | _, _ => none
  | _ => none⟩
def net_Check.ks : List K := [.st (.pr (.str) (.pr (.sl (.st (.pr (.str) (.pr (.int .i64) (.int .i64))))) (.sl (.st (.pr (.str) (.pr (.sl (.st (.pr (.int .i64) (.int .i64)))) (.pr (.sl (.st (.pr (.int .i64) (.int .i64)))) (.pr (.sl (.st (.pr (.int .i64) (.int .i64)))) (.int .i64)))))))))]
def net_Check.fent : Fent := ⟨net_Check.ks, fun α ds k => match ds with
  | [d0] => match d0.get (.st (.pr (.str) (.pr (.sl (.st (.pr (.str) (.pr (.int .i64) (.int .i64))))) (.sl (.st (.pr (.str) (.pr (.sl (.st (.pr (.int .i64) (.int .i64)))) (.pr (.sl (.st (.pr (.int .i64) (.int .i64)))) (.pr (.sl (.st (.pr (.int .i64) (.int .i64)))) (.int .i64)))))))))) with
    | some a0 => k [.dat (.st (.pr (.int .i64) (.int .i64))) (net_Check.spec a0)]
    | _ => none
  | _ => none⟩
def net_weight.ks : List K := [.sl (.st (.pr (.int .i64) (.int .i64))), .int .i64]
def net_weight.fent : Fent := ⟨net_weight.ks, fun α ds k => match ds with
  | [d0, d1] => match d0.get (.sl (.st (.pr (.int .i64) (.int .i64)))), d1.get (.int .i64) with
    | some a0, some a1 => k [.dat (.int .i64) (net_weight.spec a0 a1)]
    | _, _ => none
  | _ => none⟩
def petrinetref09_Weight.ks : List K := [.sl (.st (.pr (.int .i64) (.int .i64))), .int .i64]
def petrinetref09_Weight.fent : Fent := ⟨petrinetref09_Weight.ks, fun α ds k => match ds with
  | [d0, d1] => match d0.get (.sl (.st (.pr (.int .i64) (.int .i64)))), d1.get (.int .i64) with
    | some a0, some a1 => k [.dat (.int .i64) (petrinetref09_Weight.spec a0 a1)]
    | _, _ => none
  | _ => none⟩
def semiflow_Covered.ks : List K := [.sl (.sl (.int .i64)), .int .i64]
def semiflow_Covered.fent : Fent := ⟨semiflow_Covered.ks, fun α ds k => match ds with
  | [d0, d1] => match d0.get (.sl (.sl (.int .i64))), d1.get (.int .i64) with
    | some a0, some a1 => k [.dat (.bool) (semiflow_Covered.spec a0 a1)]
    | _, _ => none
  | _ => none⟩
def petrinetref31_Covered.ks : List K := [.sl (.sl (.int .i64)), .int .i64]
def petrinetref31_Covered.fent : Fent := ⟨petrinetref31_Covered.ks, fun α ds k => match ds with
  | [d0, d1] => match d0.get (.sl (.sl (.int .i64))), d1.get (.int .i64) with
    | some a0, some a1 => k [.dat (.bool) (petrinetref31_Covered.spec a0 a1)]
    | _, _ => none
  | _ => none⟩
def semiflow_Sum.ks : List K := [.sl (.sl (.int .i64))]
def semiflow_Sum.fent : Fent := ⟨semiflow_Sum.ks, fun α ds k => match ds with
  | [d0] => match d0.get (.sl (.sl (.int .i64))) with
    | some a0 => cond (semiflow_Sum.pre a0) (k [.own (.int .i64) (semiflow_Sum.spec a0).1, .dat (.int .i64) (semiflow_Sum.spec a0).2]) none
    | _ => none
  | _ => none⟩
def petrinetref31_Sum.ks : List K := [.sl (.sl (.int .i64))]
def petrinetref31_Sum.fent : Fent := ⟨petrinetref31_Sum.ks, fun α ds k => match ds with
  | [d0] => match d0.get (.sl (.sl (.int .i64))) with
    | some a0 => cond (petrinetref31_Sum.pre a0) (k [.own (.int .i64) (petrinetref31_Sum.spec a0).1, .dat (.int .i64) (petrinetref31_Sum.spec a0).2]) none
    | _ => none
  | _ => none⟩
def petrinetlaw31_short.ks : List K := [.sl (.sl (.int .i64))]
def petrinetlaw31_short.fent : Fent := ⟨petrinetlaw31_short.ks, fun α ds k => match ds with
  | [d0] => match d0.get (.sl (.sl (.int .i64))) with
    | some a0 => k [.dat (.bool) (petrinetlaw31_short.spec a0)]
    | _ => none
  | _ => none⟩
def petrinetlaw31_lives.ks : List K := []
def petrinetlaw31_lives.fent : Fent := ⟨petrinetlaw31_lives.ks, fun α ds k => k [.dat (.bool) (petrinetlaw31_lives.spec )]⟩
def petrinetlaw31_SemiflowSums.ks : List K := [.sl (.sl (.int .i64)), .int .i64]
def petrinetlaw31_SemiflowSums.fent : Fent := ⟨petrinetlaw31_SemiflowSums.ks, fun α ds k => match ds with
  | [d0, d1] => match d0.get (.sl (.sl (.int .i64))), d1.get (.int .i64) with
    | some a0, some a1 => k [.dat (.bool) (petrinetlaw31_SemiflowSums.spec a0 a1)]
    | _, _ => none
  | _ => none⟩
end Go.VI
set_option linter.unusedVariables false
set_option linter.unusedSimpArgs false
set_option maxRecDepth 100000
set_option maxHeartbeats 4000000
noncomputable section
namespace Go.VI
open Go Go.Proofs
namespace petrinetlaw31_short
noncomputable def an9 : Ann := [(4, [0, 3], [2])]
noncomputable def L0.sh : Sh := { sl := [(0, SV.a (SA.d (K.int IntKind.i64).sl.sl)), (3, SV.a (SA.d (K.int IntKind.i64)))], os := [], nx := 0 }
noncomputable def L0.x0 : Sh := { sl := [(2, SV.a (SA.d K.bool))], os := [], nx := 0 }
noncomputable def L0.x1 : Sh := { sl := [(2, SV.j)], os := [], nx := 0 }
noncomputable def L0.st {α : Type} (N : Nat) (x0 : (List (List Int))) (φ : (Int → Option α)) (x1 : Int) (k0 : (Bool → Option α)) (k1 : Option α) : Option α :=
  cond (decide (x1 < (↑x0.length : Int))) (cond (decide (0 ≤ x1) && decide (x1 < (↑x0.length : Int))) (cond (decide (20 < (↑(List.length (x0.getD x1.toNat [])) : Int))) (k0 (false)) (φ (IntKind.i64.wrap (x1 + 1)))) (none)) (k1 )
noncomputable def L0.f {α : Type} (N : Nat) (c0 : (List (List Int))) : Nat → Int → (Bool → Option α) → Option α → Option α
  | 0, _, _, _ => none
  | n + 1, d0, k0, k1 => L0.st N c0 (fun e0 => L0.f N c0 n e0 k0 k1) d0 k0 k1
noncomputable def L0.F {α : Type} (N : Nat) (d : L0.sh.T) (K : Cont α) : Option α := L0.f N d.1.1 N d.1.2.1 (fun y0 => K (Exit.ret) (L0.x0.enc ((y0, ()), ()))) (K (Exit.exit 0) (L0.x1.enc (((), ()), ())))
noncomputable def ents9 {α : Type} (N : Nat) : List (SmE α) := [⟨0, 50, 4, [⟨L0.sh, L0.F N⟩]⟩]
noncomputable def C (N : Nat) : Ctx := ⟨tys, [], [], N⟩
noncomputable def L0.B {α : Type} (N : Nat) : Env → Cont α → Option α := evC tys 19 0 (evCall (C N) 50) (evCallQ (C N)) N an9 (smL (ents9 N) 0 50) (loopOf 4 Try.f9)
theorem L0.r {α : Type} (N : Nat) (c0 : (List (List Int))) (φ : Env → Option α) (K : Cont α) (d0 : Int) : L0.B N (L0.sh.enc ((c0, (d0, ())), ())) (contL φ K (Env.norm 0 [0, 3]) (Env.norm 0 [2])) = L0.st N c0 (fun e0 => φ (L0.sh.enc ((c0, (e0, ())), ()))) d0 (fun y0 => K (Exit.ret) (L0.x0.enc ((y0, ()), ()))) (K (Exit.exit 0) (L0.x1.enc (((), ()), ()))) := by kernel_rfl
theorem L0.e {α : Type} (N : Nat) (c0 : (List (List Int))) : ∀ (n : Nat) (d0 : Int) (K : Cont α), evL (L0.B N) (Env.norm 0 [0, 3]) (Env.norm 0 [2]) n (L0.sh.enc ((c0, (d0, ())), ())) K = L0.f N c0 n d0 (fun y0 => K (Exit.ret) (L0.x0.enc ((y0, ()), ()))) (K (Exit.exit 0) (L0.x1.enc (((), ()), ())))
  | 0, d0, K => rfl
  | n + 1, d0, K => evL_contL.trans ((L0.r N c0 (fun e => evL (L0.B N) (Env.norm 0 [0, 3]) (Env.norm 0 [2]) n e K) K d0).trans (congrArg (fun φ => L0.st N c0 φ d0 (fun y0 => K (Exit.ret) (L0.x0.enc ((y0, ()), ()))) (K (Exit.exit 0) (L0.x1.enc (((), ()), ())))) (funext fun e0 => L0.e N c0 n e0 K)))
theorem ents9_ok {α : Type} (N : Nat) : AllP (EntOk (C N) Try.f9 an9 (ents9 (α := α) N)) (ents9 N) := ⟨entOk_of (b0 := loopOf 4 Try.f9) (li0 := [0, 3]) (lx0 := [2]) (by kernel_rfl) (by kernel_rfl) ⟨fun d K => L0.e N d.1.1 N d.1.2.1 K, trivial⟩, trivial⟩
noncomputable def g {α : Type} (N : Nat) (a0 : List (List Int)) (kr : (Bool → Option α)) : Option α :=
  cond (decide (20 < (↑a0.length : Int))) (kr (false)) (L0.f N (a0) N (0) (fun x2 => kr (x2)) (kr (true)))
theorem eq (N : Nat) (a0 : List (List Int)) : evF (C N) 50 Try.f9 an9 (smL (ents9 N) 0 50) [((.bool : K), false)] [⟨.sl (.sl (.int .i64)), a0⟩] = g N a0 (fun r0 => some [.dat (K.bool) r0]) := by kernel_rfl
theorem ctxOk (N : Nat) : CtxOk P (C N) := ctxOk_of tysOk mixedOk trivial trivial
theorem calls (N : Nat) (a0 : List (List Int)) {rs : List Rs} (h : g N a0 (fun r0 => some [.dat (K.bool) r0]) = some rs) : CallsTo P 9 [⟨.sl (.sl (.int .i64)), a0⟩] rs := evF_calls' (ctxOk N) (by rfl) (ents9_ok N) ((eq N a0).trans h)
noncomputable def L0.l {α : Type} (N : Nat) (x0 : (List (List Int))) (k0 : (Bool → Option α)) (k1 : Option α) : List (List Int) → Int → Option α
  | [], x1 => k1 
  | x :: l, x1 => (cond (decide (20 < (↑(List.length x) : Int))) (k0 (false)) (L0.l N x0 k0 k1 l (x1 + 1)))
theorem L0.rng {α : Type} {N : Nat} (x0 : (List (List Int))) (hl : x0.length ≤ maxLen) (k0 : (Bool → Option α)) (k1 : Option α) : ∀ (n j : Nat), x0.length < n + j → j ≤ x0.length → L0.f N x0 n (j : Int) k0 k1 = L0.l N x0 k0 k1 (x0.drop j) (j : Int)
  | 0, j, h, hj => absurd h (by omega)
  | n + 1, j, h, hj => by
    by_cases hlt : j < x0.length
    · have e1 : decide ((j : Int) < (x0.length : Int)) = true := decide_eq_true (Int.ofNat_lt.2 hlt)
      have e2 : decide ((0 : Int) ≤ (j : Int)) = true := decide_eq_true (Int.natCast_nonneg j)
      have e3 : ∀ z, x0.getD (Int.toNat (j : Int)) z = x0[j] := fun z => by rw [Int.toNat_natCast]; exact (List.getElem_eq_getD z).symm
      have e3' : ∀ z, x0.getD (0 + Int.toNat (j : Int)) z = x0[j] := fun z => by rw [Nat.zero_add]; exact e3 z
      have e4 : IntKind.i64.wrap ((j : Int) + 1) = (j : Int) + 1 := wrap_next hlt hl
      have ih : ∀ (_ : Unit), L0.f N x0 n ((j : Int) + 1) k0 k1 = L0.l N x0 k0 k1 (x0.drop (j + 1)) ((j : Int) + 1) := fun _ => L0.rng x0 hl k0 k1 n (j + 1) (by omega) (by omega)
      rw [List.drop_eq_getElem_cons hlt]
      replace ih := ih ()
      first
        | (simp only [L0.f, L0.st, L0.l, e1, e2, e3, e3', e4, Bool.true_and, Bool.and_true, Bool.and_self, cond_true, ih]; done)
        | (simp only [L0.f, L0.st, L0.l, e1, e2, e3, e3', e4, Bool.true_and, Bool.and_true, Bool.and_self, cond_true, ih]; rfl)
    · have e1 : decide ((j : Int) < (x0.length : Int)) = false := decide_eq_false (fun hc => hlt (Int.ofNat_lt.1 hc))
      rw [List.drop_eq_nil_of_le (by omega)]
      simp only [L0.f, L0.st, L0.l, e1, cond_false]
end petrinetlaw31_short
theorem petrinetlaw31_short.L0.law {α : Type} {N : Nat} (a : List (List Int)) (k0 : Bool → Option α) (k1 : Option α) : ∀ (l : List (List Int)) (i : Int),
    petrinetlaw31_short.L0.l N a k0 k1 l i = cond (l.all fun r => decide (r.length ≤ 20)) k1 (k0 false)
  | [], i => rfl
  | x :: l, i => by
    rw [petrinetlaw31_short.L0.l, petrinetlaw31_short.L0.law a k0 k1 l]
    by_cases h : x.length ≤ 20
    · have e1 : decide (20 < (x.length : Int)) = false := decide_eq_false (by omega)
      simp only [e1, cond_false, List.all_cons, h, decide_true, Bool.true_and]
    · have e1 : decide (20 < (x.length : Int)) = true := decide_eq_true (by omega)
      simp only [e1, cond_true, List.all_cons, h, decide_false, Bool.false_and, cond_false]
theorem petrinetlaw31_short.law {α : Type} {N : Nat} (hN : 18446744073709551616 ≤ N) (a0 : List (List Int)) (w0 : K.wf (.sl (.sl (.int .i64))) a0) (kr : (Bool → Option α)) : petrinetlaw31_short.g N a0 kr = kr (petrinetlaw31_short.spec a0) := by
  unfold petrinetlaw31_short.g petrinetlaw31_short.spec
  by_cases h : a0.length ≤ 20
  · have e1 : decide (20 < (a0.length : Int)) = false := decide_eq_false (by omega)
    simp only [e1, cond_false, h, decide_true, Bool.true_and]
    refine (petrinetlaw31_short.L0.rng (N := N) a0 w0.1 (fun x => kr x) (kr true) N 0 (by have := le_fuel w0.1 hN; omega) (Nat.zero_le _)).trans ?_
    rw [petrinetlaw31_short.L0.law, List.drop_zero]
    cases a0.all fun r => decide (r.length ≤ 20) <;> rfl
  · have e1 : decide (20 < (a0.length : Int)) = true := decide_eq_true (by omega)
    simp only [e1, cond_true, h, decide_false, Bool.false_and]

theorem petrinetlaw31_short.ok : FentOk P 9 petrinetlaw31_short.fent := fentOk_of (by kernel_rfl) fun ds hk => by
  obtain ⟨a0, l0, rfl, h0⟩ := ds_cons hk
  obtain rfl := ds0 h0
  exact ⟨true, [.dat (.bool) (petrinetlaw31_short.spec a0)], fun h hw => petrinetlaw31_short.calls 18446744073709551616 a0 (petrinetlaw31_short.law (Nat.le_refl _) a0 hw.1 _), fun α k => rfl⟩
end Go.VI
set_option linter.unusedVariables false
set_option maxRecDepth 100000
set_option maxHeartbeats 4000000
noncomputable section
namespace Go.VI
open Go Go.Proofs
namespace memo_solve31
noncomputable def an12 : Ann := [(5, [4, 14, 15], [2, 3, 4])]
noncomputable def an36 : Ann := [(5, [3, 18, 19, 20], [2, 3])]
noncomputable def an37 : Ann := [(4, [0, 3, 4, 5], [4]), (8, [0, 3, 4, 5, 6, 25, 26], [0, 3, 4, 5, 6])]
noncomputable def an38 : Ann := []
noncomputable def an39 : Ann := [(3, [3, 8, 9, 10], [3]), (8, [3, 6, 7, 8, 9, 10], [3, 6, 7, 8, 9, 10])]
noncomputable def an65 : Ann := [(3, [0, 3, 15, 16, 17], [0, 3]), (9, [3, 6, 28, 29, 30], [6]), (12, [3, 6, 7, 8, 28, 29, 30, 35, 36, 37], [3, 6, 8, 28, 29, 30])]
noncomputable def an60 : Ann := [(2, [0, 1, 3, 11, 12, 13], [6])]
noncomputable def an61 : Ann := []
noncomputable def an62 : Ann := []
noncomputable def an66 : Ann := [(2, [0, 1, 5], [0, 1, 4])]
noncomputable def an91 : Ann := [(3, [3, 11, 12, 13], [3])]
noncomputable def an63 : Ann := []
noncomputable def an106 : Ann := [(3, [3, 6, 7, 8], [3])]
noncomputable def an64 : Ann := []
noncomputable def an89 : Ann := []
noncomputable def an90 : Ann := [(3, [0, 4, 10, 11, 12], [0, 2, 3, 4]), (11, [4, 7, 28, 29, 30], [7])]
noncomputable def an77 : Ann := [(5, [1, 2, 8, 21, 22, 23], [6, 7, 8])]
noncomputable def an103 : Ann := []
noncomputable def an105 : Ann := []
noncomputable def an78 : Ann := []
noncomputable def an104 : Ann := []
noncomputable def an111 : Ann := []
noncomputable def an112 : Ann := []
noncomputable def an113 : Ann := [(1, [0, 1], [0])]
noncomputable def an110 : Ann := []
noncomputable def C : Ctx := ⟨tysD, [], [(36, ⟨Try.f36, an36, noSm⟩), (37, ⟨Try.f37, an37, noSm⟩), (38, ⟨Try.f38, an38, noSm⟩), (39, ⟨Try.f39, an39, noSm⟩), (65, ⟨Try.f65, an65, noSm⟩), (60, ⟨Try.f60, an60, noSm⟩), (61, ⟨Try.f61, an61, noSm⟩), (62, ⟨Try.f62, an62, noSm⟩), (66, ⟨Try.f66, an66, noSm⟩), (91, ⟨Try.f91, an91, noSm⟩), (63, ⟨Try.f63, an63, noSm⟩), (106, ⟨Try.f106, an106, noSm⟩), (64, ⟨Try.f64, an64, noSm⟩), (89, ⟨Try.f89, an89, noSm⟩), (90, ⟨Try.f90, an90, noSm⟩), (77, ⟨Try.f77, an77, noSm⟩), (103, ⟨Try.f103, an103, noSm⟩), (105, ⟨Try.f105, an105, noSm⟩), (78, ⟨Try.f78, an78, noSm⟩), (104, ⟨Try.f104, an104, noSm⟩), (111, ⟨Try.f111, an111, noSm⟩), (112, ⟨Try.f112, an112, noSm⟩), (113, ⟨Try.f113, an113, noSm⟩), (110, ⟨Try.f110, an110, noSm⟩)], 100000⟩
theorem ctxOk : CtxOk P C := ctxOk_of tysDOk mixedOk trivial ⟨inlOk_no (by rfl) (by kernel_rfl), inlOk_no (by rfl) (by kernel_rfl), inlOk_no (by rfl) (by kernel_rfl), inlOk_no (by rfl) (by kernel_rfl), inlOk_no (by rfl) (by kernel_rfl), inlOk_no (by rfl) (by kernel_rfl), inlOk_no (by rfl) (by kernel_rfl), inlOk_no (by rfl) (by kernel_rfl), inlOk_no (by rfl) (by kernel_rfl), inlOk_no (by rfl) (by kernel_rfl), inlOk_no (by rfl) (by kernel_rfl), inlOk_no (by rfl) (by kernel_rfl), inlOk_no (by rfl) (by kernel_rfl), inlOk_no (by rfl) (by kernel_rfl), inlOk_no (by rfl) (by kernel_rfl), inlOk_no (by rfl) (by kernel_rfl), inlOk_no (by rfl) (by kernel_rfl), inlOk_no (by rfl) (by kernel_rfl), inlOk_no (by rfl) (by kernel_rfl), inlOk_no (by rfl) (by kernel_rfl), inlOk_no (by rfl) (by kernel_rfl), inlOk_no (by rfl) (by kernel_rfl), inlOk_no (by rfl) (by kernel_rfl), inlOk_no (by rfl) (by kernel_rfl), trivial⟩
theorem run0 : evF C 60 Try.f12 an12 (fun _ => none) [(((.sl (.int .i64)) : K), true), ((.int .i64 : K), false)] [⟨.sl (.sl (.int .i64)), [[(2 : Int), -3, 0]]⟩] = some [.own (.sl (.int .i64)) [[(3 : Int), 2, 0], [0, 0, 1]], .dat (.int .i64) (0 : Int)] := by kernel_rfl
theorem run1 : evF C 60 Try.f12 an12 (fun _ => none) [(((.sl (.int .i64)) : K), true), ((.int .i64 : K), false)] [⟨.sl (.sl (.int .i64)), []⟩] = some [.own (.sl (.int .i64)) [], .dat (.int .i64) (2 : Int)] := by kernel_rfl
noncomputable def fent : Fent := memo [.sl (.sl (.int .i64))] [([⟨.sl (.sl (.int .i64)), [[(2 : Int), -3, 0]]⟩], [.own (.sl (.int .i64)) [[(3 : Int), 2, 0], [0, 0, 1]], .dat (.int .i64) (0 : Int)]), ([⟨.sl (.sl (.int .i64)), []⟩], [.own (.sl (.int .i64)) [], .dat (.int .i64) (2 : Int)])]
theorem ok : FentOk P 12 fent := memo_ok (by kernel_rfl) ⟨evF_at ctxOk (by rfl) run0, evF_at ctxOk (by rfl) run1, trivial⟩
end memo_solve31
end Go.VI
set_option linter.unusedVariables false
set_option linter.unusedSimpArgs false
set_option maxRecDepth 100000
set_option maxHeartbeats 4000000
noncomputable section
namespace Go.VI
open Go Go.Proofs
namespace net_weight
noncomputable def an54 : Ann := [(2, [1, 7, 8, 9], [4])]
noncomputable def L0.sh : Sh := { sl := [(1, SV.a (SA.d (K.int IntKind.i64))), (7, SV.a (SA.d ((K.int IntKind.i64).pr (K.int IntKind.i64)).st.sl)), (8, SV.a (SA.d (K.int IntKind.i64))), (9, SV.a (SA.d (K.int IntKind.i64)))], os := [], nx := 0 }
noncomputable def L0.x0 : Sh := { sl := [(4, SV.a (SA.d (K.int IntKind.i64)))], os := [], nx := 0 }
noncomputable def L0.x1 : Sh := { sl := [(4, SV.j)], os := [], nx := 0 }
noncomputable def L0.st {α : Type} (N : Nat) (x0 : Int) (x1 : (List (Int × Int))) (x2 : Int) (φ : (Int → Option α)) (x3 : Int) (k0 : (Int → Option α)) (k1 : Option α) : Option α :=
  cond (decide (x3 < x2)) (cond (decide (0 ≤ x3) && decide (x3 < (↑x1.length : Int))) (cond ((x1.getD x3.toNat (0, 0)).fst == x0) (k0 ((x1.getD x3.toNat (0, 0)).snd)) (φ (IntKind.i64.wrap (x3 + 1)))) (none)) (k1 )
noncomputable def L0.f {α : Type} (N : Nat) (c0 : Int) (c1 : (List (Int × Int))) (c2 : Int) : Nat → Int → (Int → Option α) → Option α → Option α
  | 0, _, _, _ => none
  | n + 1, d0, k0, k1 => L0.st N c0 c1 c2 (fun e0 => L0.f N c0 c1 c2 n e0 k0 k1) d0 k0 k1
noncomputable def L0.F {α : Type} (N : Nat) (d : L0.sh.T) (K : Cont α) : Option α := L0.f N d.1.1 d.1.2.1 d.1.2.2.1 N d.1.2.2.2.1 (fun y0 => K (Exit.ret) (L0.x0.enc ((y0, ()), ()))) (K (Exit.exit 0) (L0.x1.enc (((), ()), ())))
noncomputable def ents54 {α : Type} (N : Nat) : List (SmE α) := [⟨0, 50, 2, [⟨L0.sh, L0.F N⟩]⟩]
noncomputable def C (N : Nat) : Ctx := ⟨tys, [], [], N⟩
noncomputable def L0.B {α : Type} (N : Nat) : Env → Cont α → Option α := evC tys 20 0 (evCall (C N) 50) (evCallQ (C N)) N an54 (smL (ents54 N) 0 50) (loopOf 2 Try.f54)
theorem L0.r {α : Type} (N : Nat) (c0 : Int) (c1 : (List (Int × Int))) (c2 : Int) (φ : Env → Option α) (K : Cont α) (d0 : Int) : L0.B N (L0.sh.enc ((c0, (c1, (c2, (d0, ())))), ())) (contL φ K (Env.norm 0 [1, 7, 8, 9]) (Env.norm 0 [4])) = L0.st N c0 c1 c2 (fun e0 => φ (L0.sh.enc ((c0, (c1, (c2, (e0, ())))), ()))) d0 (fun y0 => K (Exit.ret) (L0.x0.enc ((y0, ()), ()))) (K (Exit.exit 0) (L0.x1.enc (((), ()), ()))) := by kernel_rfl
theorem L0.e {α : Type} (N : Nat) (c0 : Int) (c1 : (List (Int × Int))) (c2 : Int) : ∀ (n : Nat) (d0 : Int) (K : Cont α), evL (L0.B N) (Env.norm 0 [1, 7, 8, 9]) (Env.norm 0 [4]) n (L0.sh.enc ((c0, (c1, (c2, (d0, ())))), ())) K = L0.f N c0 c1 c2 n d0 (fun y0 => K (Exit.ret) (L0.x0.enc ((y0, ()), ()))) (K (Exit.exit 0) (L0.x1.enc (((), ()), ())))
  | 0, d0, K => rfl
  | n + 1, d0, K => evL_contL.trans ((L0.r N c0 c1 c2 (fun e => evL (L0.B N) (Env.norm 0 [1, 7, 8, 9]) (Env.norm 0 [4]) n e K) K d0).trans (congrArg (fun φ => L0.st N c0 c1 c2 φ d0 (fun y0 => K (Exit.ret) (L0.x0.enc ((y0, ()), ()))) (K (Exit.exit 0) (L0.x1.enc (((), ()), ())))) (funext fun e0 => L0.e N c0 c1 c2 n e0 K)))
theorem ents54_ok {α : Type} (N : Nat) : AllP (EntOk (C N) Try.f54 an54 (ents54 (α := α) N)) (ents54 N) := ⟨entOk_of (b0 := loopOf 2 Try.f54) (li0 := [1, 7, 8, 9]) (lx0 := [4]) (by kernel_rfl) (by kernel_rfl) ⟨fun d K => L0.e N d.1.1 d.1.2.1 d.1.2.2.1 N d.1.2.2.2.1 K, trivial⟩, trivial⟩
noncomputable def g {α : Type} (N : Nat) (a0 : List (Int × Int)) (a1 : Int) (kr : (Int → Option α)) : Option α :=
  L0.f N (a1) (a0) ((↑a0.length : Int)) N (0) (fun x4 => kr (x4)) (kr (0))
theorem eq (N : Nat) (a0 : List (Int × Int)) (a1 : Int) : evF (C N) 50 Try.f54 an54 (smL (ents54 N) 0 50) [((.int .i64 : K), false)] [⟨.sl (.st (.pr (.int .i64) (.int .i64))), a0⟩, ⟨.int .i64, a1⟩] = g N a0 a1 (fun r0 => some [.dat (K.int IntKind.i64) r0]) := by kernel_rfl
theorem ctxOk (N : Nat) : CtxOk P (C N) := ctxOk_of tysOk mixedOk trivial trivial
theorem calls (N : Nat) (a0 : List (Int × Int)) (a1 : Int) {rs : List Rs} (h : g N a0 a1 (fun r0 => some [.dat (K.int IntKind.i64) r0]) = some rs) : CallsTo P 54 [⟨.sl (.st (.pr (.int .i64) (.int .i64))), a0⟩, ⟨.int .i64, a1⟩] rs := evF_calls' (ctxOk N) (by rfl) (ents54_ok N) ((eq N a0 a1).trans h)
noncomputable def L0.l {α : Type} (N : Nat) (x0 : Int) (x1 : (List (Int × Int))) (k0 : (Int → Option α)) (k1 : Option α) : List (Int × Int) → Int → Option α
  | [], x3 => k1 
  | x :: l, x3 => (cond (x.fst == x0) (k0 (x.snd)) (L0.l N x0 x1 k0 k1 l (x3 + 1)))
theorem L0.rng {α : Type} {N : Nat} (x0 : Int) (x1 : (List (Int × Int))) (hl : x1.length ≤ maxLen) (k0 : (Int → Option α)) (k1 : Option α) : ∀ (n j : Nat), x1.length < n + j → j ≤ x1.length → L0.f N x0 x1 (x1.length : Int) n (j : Int) k0 k1 = L0.l N x0 x1 k0 k1 (x1.drop j) (j : Int)
  | 0, j, h, hj => absurd h (by omega)
  | n + 1, j, h, hj => by
    by_cases hlt : j < x1.length
    · have e1 : decide ((j : Int) < (x1.length : Int)) = true := decide_eq_true (Int.ofNat_lt.2 hlt)
      have e2 : decide ((0 : Int) ≤ (j : Int)) = true := decide_eq_true (Int.natCast_nonneg j)
      have e3 : ∀ z, x1.getD (Int.toNat (j : Int)) z = x1[j] := fun z => by rw [Int.toNat_natCast]; exact (List.getElem_eq_getD z).symm
      have e3' : ∀ z, x1.getD (0 + Int.toNat (j : Int)) z = x1[j] := fun z => by rw [Nat.zero_add]; exact e3 z
      have e4 : IntKind.i64.wrap ((j : Int) + 1) = (j : Int) + 1 := wrap_next hlt hl
      have ih : ∀ (_ : Unit), L0.f N x0 x1 (x1.length : Int) n ((j : Int) + 1) k0 k1 = L0.l N x0 x1 k0 k1 (x1.drop (j + 1)) ((j : Int) + 1) := fun _ => L0.rng x0 x1 hl k0 k1 n (j + 1) (by omega) (by omega)
      rw [List.drop_eq_getElem_cons hlt]
      replace ih := ih ()
      first
        | (simp only [L0.f, L0.st, L0.l, e1, e2, e3, e3', e4, Bool.true_and, Bool.and_true, Bool.and_self, cond_true, ih]; done)
        | (simp only [L0.f, L0.st, L0.l, e1, e2, e3, e3', e4, Bool.true_and, Bool.and_true, Bool.and_self, cond_true, ih]; rfl)
    · have e1 : decide ((j : Int) < (x1.length : Int)) = false := decide_eq_false (fun hc => hlt (Int.ofNat_lt.1 hc))
      rw [List.drop_eq_nil_of_le (by omega)]
      simp only [L0.f, L0.st, L0.l, e1, cond_false]
end net_weight
theorem net_weight.L0.law {α : Type} {N : Nat} (p : Int) (xs : List (Int × Int)) (k0 : Int → Option α) : ∀ (l : List (Int × Int)) (i : Int),
    net_weight.L0.l N p xs k0 (k0 0) l i = k0 (weightS l p)
  | [], i => rfl
  | x :: l, i => by
    rw [net_weight.L0.l, net_weight.L0.law p xs k0 l, weightS]
    cases x.1 == p <;> rfl
theorem net_weight.law {α : Type} {N : Nat} (hN : 18446744073709551616 ≤ N) (a0 : List (Int × Int)) (a1 : Int) (w0 : K.wf (.sl (.st (.pr (.int .i64) (.int .i64)))) a0) (w1 : K.wf (.int .i64) a1) (kr : (Int → Option α)) : net_weight.g N a0 a1 kr = kr (net_weight.spec a0 a1) := by
  unfold net_weight.g net_weight.spec
  refine (net_weight.L0.rng (N := N) a1 a0 w0.1 (fun x => kr x) (kr 0) N 0 (by have := le_fuel w0.1 hN; omega) (Nat.zero_le _)).trans ?_
  rw [List.drop_zero]
  exact net_weight.L0.law a1 a0 (fun x => kr x) a0 0

theorem net_weight.ok : FentOk P 54 net_weight.fent := fentOk_of (by kernel_rfl) fun ds hk => by
  obtain ⟨a0, l0, rfl, h0⟩ := ds_cons hk
  obtain ⟨a1, l1, rfl, h1⟩ := ds_cons h0
  obtain rfl := ds0 h1
  exact ⟨true, [.dat (.int .i64) (net_weight.spec a0 a1)], fun h hw => net_weight.calls 18446744073709551616 a0 a1 (net_weight.law (Nat.le_refl _) a0 a1 hw.1 hw.2.1 _), fun α k => rfl⟩
end Go.VI
set_option linter.unusedVariables false
set_option maxRecDepth 100000
set_option maxHeartbeats 4000000
noncomputable section
namespace Go.VI
open Go Go.Proofs
namespace memo_cycPlaces
noncomputable def an17 : Ann := [(8, [1, 5, 25, 26], [5])]
noncomputable def an12 : Ann := [(5, [4, 14, 15], [2, 3, 4])]
noncomputable def an32 : Ann := [(5, [1, 3, 21, 22], [3]), (8, [1, 3, 4, 21, 22, 26, 27, 28], [1, 3, 21, 22])]
noncomputable def an46 : Ann := [(5, [1, 16, 17, 18], [1, 2]), (11, [28, 29, 30], [2])]
noncomputable def an47 : Ann := [(5, [0, 3, 16, 17], [3]), (8, [0, 3, 4, 16, 17, 20, 21, 22], [0, 3, 16, 17])]
noncomputable def an36 : Ann := [(5, [3, 18, 19, 20], [2, 3])]
noncomputable def an37 : Ann := [(4, [0, 3, 4, 5], [4]), (8, [0, 3, 4, 5, 6, 25, 26], [0, 3, 4, 5, 6])]
noncomputable def an38 : Ann := []
noncomputable def an39 : Ann := [(3, [3, 8, 9, 10], [3]), (8, [3, 6, 7, 8, 9, 10], [3, 6, 7, 8, 9, 10])]
noncomputable def an53 : Ann := []
noncomputable def an55 : Ann := [(8, [1, 2, 4, 35, 36, 37], [1, 2, 4]), (17, [1, 2, 4, 57, 58, 59], [2])]
noncomputable def an65 : Ann := [(3, [0, 3, 15, 16, 17], [0, 3]), (9, [3, 6, 28, 29, 30], [6]), (12, [3, 6, 7, 8, 28, 29, 30, 35, 36, 37], [3, 6, 8, 28, 29, 30])]
noncomputable def an60 : Ann := [(2, [0, 1, 3, 11, 12, 13], [6])]
noncomputable def an61 : Ann := []
noncomputable def an62 : Ann := []
noncomputable def an66 : Ann := [(2, [0, 1, 5], [0, 1, 4])]
noncomputable def an81 : Ann := [(4, [14], [2])]
noncomputable def an83 : Ann := []
noncomputable def an84 : Ann := [(4, [1, 22, 23, 24], [4])]
noncomputable def an82 : Ann := [(4, [0, 1, 9, 10, 11], [0, 1, 3])]
noncomputable def an91 : Ann := [(3, [3, 11, 12, 13], [3])]
noncomputable def an63 : Ann := []
noncomputable def an56 : Ann := [(4, [11, 12, 13], [4])]
noncomputable def an101 : Ann := [(2, [0, 1, 7, 8, 9], [4])]
noncomputable def an106 : Ann := [(3, [3, 6, 7, 8], [3])]
noncomputable def an64 : Ann := []
noncomputable def an89 : Ann := []
noncomputable def an90 : Ann := [(3, [0, 4, 10, 11, 12], [0, 2, 3, 4]), (11, [4, 7, 28, 29, 30], [7])]
noncomputable def an77 : Ann := [(5, [1, 2, 8, 21, 22, 23], [6, 7, 8])]
noncomputable def an103 : Ann := []
noncomputable def an105 : Ann := []
noncomputable def an78 : Ann := []
noncomputable def an104 : Ann := []
noncomputable def an111 : Ann := []
noncomputable def an112 : Ann := []
noncomputable def an113 : Ann := [(1, [0, 1], [0])]
noncomputable def an110 : Ann := []
noncomputable def C : Ctx := ⟨tysD, [(54, net_weight.fent)], [(12, ⟨Try.f12, an12, noSm⟩), (32, ⟨Try.f32, an32, noSm⟩), (46, ⟨Try.f46, an46, noSm⟩), (47, ⟨Try.f47, an47, noSm⟩), (36, ⟨Try.f36, an36, noSm⟩), (37, ⟨Try.f37, an37, noSm⟩), (38, ⟨Try.f38, an38, noSm⟩), (39, ⟨Try.f39, an39, noSm⟩), (53, ⟨Try.f53, an53, noSm⟩), (55, ⟨Try.f55, an55, noSm⟩), (65, ⟨Try.f65, an65, noSm⟩), (60, ⟨Try.f60, an60, noSm⟩), (61, ⟨Try.f61, an61, noSm⟩), (62, ⟨Try.f62, an62, noSm⟩), (66, ⟨Try.f66, an66, noSm⟩), (81, ⟨Try.f81, an81, noSm⟩), (83, ⟨Try.f83, an83, noSm⟩), (84, ⟨Try.f84, an84, noSm⟩), (82, ⟨Try.f82, an82, noSm⟩), (91, ⟨Try.f91, an91, noSm⟩), (63, ⟨Try.f63, an63, noSm⟩), (56, ⟨Try.f56, an56, noSm⟩), (101, ⟨Try.f101, an101, noSm⟩), (106, ⟨Try.f106, an106, noSm⟩), (64, ⟨Try.f64, an64, noSm⟩), (89, ⟨Try.f89, an89, noSm⟩), (90, ⟨Try.f90, an90, noSm⟩), (77, ⟨Try.f77, an77, noSm⟩), (103, ⟨Try.f103, an103, noSm⟩), (105, ⟨Try.f105, an105, noSm⟩), (78, ⟨Try.f78, an78, noSm⟩), (104, ⟨Try.f104, an104, noSm⟩), (111, ⟨Try.f111, an111, noSm⟩), (112, ⟨Try.f112, an112, noSm⟩), (113, ⟨Try.f113, an113, noSm⟩), (110, ⟨Try.f110, an110, noSm⟩)], 100000⟩
theorem ctxOk : CtxOk P C := ctxOk_of tysDOk mixedOk ⟨net_weight.ok, trivial⟩ ⟨inlOk_no (by rfl) (by kernel_rfl), inlOk_no (by rfl) (by kernel_rfl), inlOk_no (by rfl) (by kernel_rfl), inlOk_no (by rfl) (by kernel_rfl), inlOk_no (by rfl) (by kernel_rfl), inlOk_no (by rfl) (by kernel_rfl), inlOk_no (by rfl) (by kernel_rfl), inlOk_no (by rfl) (by kernel_rfl), inlOk_no (by rfl) (by kernel_rfl), inlOk_no (by rfl) (by kernel_rfl), inlOk_no (by rfl) (by kernel_rfl), inlOk_no (by rfl) (by kernel_rfl), inlOk_no (by rfl) (by kernel_rfl), inlOk_no (by rfl) (by kernel_rfl), inlOk_no (by rfl) (by kernel_rfl), inlOk_no (by rfl) (by kernel_rfl), inlOk_no (by rfl) (by kernel_rfl), inlOk_no (by rfl) (by kernel_rfl), inlOk_no (by rfl) (by kernel_rfl), inlOk_no (by rfl) (by kernel_rfl), inlOk_no (by rfl) (by kernel_rfl), inlOk_no (by rfl) (by kernel_rfl), inlOk_no (by rfl) (by kernel_rfl), inlOk_no (by rfl) (by kernel_rfl), inlOk_no (by rfl) (by kernel_rfl), inlOk_no (by rfl) (by kernel_rfl), inlOk_no (by rfl) (by kernel_rfl), inlOk_no (by rfl) (by kernel_rfl), inlOk_no (by rfl) (by kernel_rfl), inlOk_no (by rfl) (by kernel_rfl), inlOk_no (by rfl) (by kernel_rfl), inlOk_no (by rfl) (by kernel_rfl), inlOk_no (by rfl) (by kernel_rfl), inlOk_no (by rfl) (by kernel_rfl), inlOk_no (by rfl) (by kernel_rfl), inlOk_no (by rfl) (by kernel_rfl), trivial⟩
theorem run0 : evF C 60 Try.f17 an17 (fun _ => none) [(((.sl (.int .i64)) : K), true), ((.int .i64 : K), false)] [⟨.st (.pr (.str) (.pr (.sl (.st (.pr (.str) (.pr (.int .i64) (.int .i64))))) (.sl (.st (.pr (.str) (.pr (.sl (.st (.pr (.int .i64) (.int .i64)))) (.pr (.sl (.st (.pr (.int .i64) (.int .i64)))) (.pr (.sl (.st (.pr (.int .i64) (.int .i64)))) (.int .i64))))))))), ((⟨#[110]⟩ : ByteArray), [((⟨#[112]⟩ : ByteArray), (1 : Int), (0 : Int)), (⟨#[113]⟩, 0, 0)], [((⟨#[116]⟩ : ByteArray), [((0 : Int), (1 : Int))], [((1 : Int), (1 : Int))], ([] : List (Int × Int)), (0 : Int)), (⟨#[117]⟩, [(1, 1)], [(0, 1)], [], 0)])⟩] = some [.own (.sl (.int .i64)) [[(1 : Int), 1]], .dat (.int .i64) (0 : Int)] := by kernel_rfl
noncomputable def fent : Fent := memo [.st (.pr (.str) (.pr (.sl (.st (.pr (.str) (.pr (.int .i64) (.int .i64))))) (.sl (.st (.pr (.str) (.pr (.sl (.st (.pr (.int .i64) (.int .i64)))) (.pr (.sl (.st (.pr (.int .i64) (.int .i64)))) (.pr (.sl (.st (.pr (.int .i64) (.int .i64)))) (.int .i64)))))))))] [([⟨.st (.pr (.str) (.pr (.sl (.st (.pr (.str) (.pr (.int .i64) (.int .i64))))) (.sl (.st (.pr (.str) (.pr (.sl (.st (.pr (.int .i64) (.int .i64)))) (.pr (.sl (.st (.pr (.int .i64) (.int .i64)))) (.pr (.sl (.st (.pr (.int .i64) (.int .i64)))) (.int .i64))))))))), ((⟨#[110]⟩ : ByteArray), [((⟨#[112]⟩ : ByteArray), (1 : Int), (0 : Int)), (⟨#[113]⟩, 0, 0)], [((⟨#[116]⟩ : ByteArray), [((0 : Int), (1 : Int))], [((1 : Int), (1 : Int))], ([] : List (Int × Int)), (0 : Int)), (⟨#[117]⟩, [(1, 1)], [(0, 1)], [], 0)])⟩], [.own (.sl (.int .i64)) [[(1 : Int), 1]], .dat (.int .i64) (0 : Int)])]
theorem ok : FentOk P 17 fent := memo_ok (by kernel_rfl) ⟨evF_at ctxOk (by rfl) run0, trivial⟩
end memo_cycPlaces
end Go.VI
set_option linter.unusedVariables false
set_option maxRecDepth 100000
set_option maxHeartbeats 4000000
noncomputable section
namespace Go.VI
open Go Go.Proofs
namespace memo_cycTrans
noncomputable def an19 : Ann := []
noncomputable def an12 : Ann := [(5, [4, 14, 15], [2, 3, 4])]
noncomputable def an32 : Ann := [(5, [1, 3, 21, 22], [3]), (8, [1, 3, 4, 21, 22, 26, 27, 28], [1, 3, 21, 22])]
noncomputable def an46 : Ann := [(5, [1, 16, 17, 18], [1, 2]), (11, [28, 29, 30], [2])]
noncomputable def an36 : Ann := [(5, [3, 18, 19, 20], [2, 3])]
noncomputable def an37 : Ann := [(4, [0, 3, 4, 5], [4]), (8, [0, 3, 4, 5, 6, 25, 26], [0, 3, 4, 5, 6])]
noncomputable def an38 : Ann := []
noncomputable def an39 : Ann := [(3, [3, 8, 9, 10], [3]), (8, [3, 6, 7, 8, 9, 10], [3, 6, 7, 8, 9, 10])]
noncomputable def an53 : Ann := []
noncomputable def an55 : Ann := [(8, [1, 2, 4, 35, 36, 37], [1, 2, 4]), (17, [1, 2, 4, 57, 58, 59], [2])]
noncomputable def an65 : Ann := [(3, [0, 3, 15, 16, 17], [0, 3]), (9, [3, 6, 28, 29, 30], [6]), (12, [3, 6, 7, 8, 28, 29, 30, 35, 36, 37], [3, 6, 8, 28, 29, 30])]
noncomputable def an60 : Ann := [(2, [0, 1, 3, 11, 12, 13], [6])]
noncomputable def an61 : Ann := []
noncomputable def an62 : Ann := []
noncomputable def an66 : Ann := [(2, [0, 1, 5], [0, 1, 4])]
noncomputable def an81 : Ann := [(4, [14], [2])]
noncomputable def an83 : Ann := []
noncomputable def an84 : Ann := [(4, [1, 22, 23, 24], [4])]
noncomputable def an82 : Ann := [(4, [0, 1, 9, 10, 11], [0, 1, 3])]
noncomputable def an91 : Ann := [(3, [3, 11, 12, 13], [3])]
noncomputable def an63 : Ann := []
noncomputable def an56 : Ann := [(4, [11, 12, 13], [4])]
noncomputable def an101 : Ann := [(2, [0, 1, 7, 8, 9], [4])]
noncomputable def an106 : Ann := [(3, [3, 6, 7, 8], [3])]
noncomputable def an64 : Ann := []
noncomputable def an89 : Ann := []
noncomputable def an90 : Ann := [(3, [0, 4, 10, 11, 12], [0, 2, 3, 4]), (11, [4, 7, 28, 29, 30], [7])]
noncomputable def an77 : Ann := [(5, [1, 2, 8, 21, 22, 23], [6, 7, 8])]
noncomputable def an103 : Ann := []
noncomputable def an105 : Ann := []
noncomputable def an78 : Ann := []
noncomputable def an104 : Ann := []
noncomputable def an111 : Ann := []
noncomputable def an112 : Ann := []
noncomputable def an113 : Ann := [(1, [0, 1], [0])]
noncomputable def an110 : Ann := []
noncomputable def C : Ctx := ⟨tysD, [(54, net_weight.fent)], [(12, ⟨Try.f12, an12, noSm⟩), (32, ⟨Try.f32, an32, noSm⟩), (46, ⟨Try.f46, an46, noSm⟩), (36, ⟨Try.f36, an36, noSm⟩), (37, ⟨Try.f37, an37, noSm⟩), (38, ⟨Try.f38, an38, noSm⟩), (39, ⟨Try.f39, an39, noSm⟩), (53, ⟨Try.f53, an53, noSm⟩), (55, ⟨Try.f55, an55, noSm⟩), (65, ⟨Try.f65, an65, noSm⟩), (60, ⟨Try.f60, an60, noSm⟩), (61, ⟨Try.f61, an61, noSm⟩), (62, ⟨Try.f62, an62, noSm⟩), (66, ⟨Try.f66, an66, noSm⟩), (81, ⟨Try.f81, an81, noSm⟩), (83, ⟨Try.f83, an83, noSm⟩), (84, ⟨Try.f84, an84, noSm⟩), (82, ⟨Try.f82, an82, noSm⟩), (91, ⟨Try.f91, an91, noSm⟩), (63, ⟨Try.f63, an63, noSm⟩), (56, ⟨Try.f56, an56, noSm⟩), (101, ⟨Try.f101, an101, noSm⟩), (106, ⟨Try.f106, an106, noSm⟩), (64, ⟨Try.f64, an64, noSm⟩), (89, ⟨Try.f89, an89, noSm⟩), (90, ⟨Try.f90, an90, noSm⟩), (77, ⟨Try.f77, an77, noSm⟩), (103, ⟨Try.f103, an103, noSm⟩), (105, ⟨Try.f105, an105, noSm⟩), (78, ⟨Try.f78, an78, noSm⟩), (104, ⟨Try.f104, an104, noSm⟩), (111, ⟨Try.f111, an111, noSm⟩), (112, ⟨Try.f112, an112, noSm⟩), (113, ⟨Try.f113, an113, noSm⟩), (110, ⟨Try.f110, an110, noSm⟩)], 100000⟩
theorem ctxOk : CtxOk P C := ctxOk_of tysDOk mixedOk ⟨net_weight.ok, trivial⟩ ⟨inlOk_no (by rfl) (by kernel_rfl), inlOk_no (by rfl) (by kernel_rfl), inlOk_no (by rfl) (by kernel_rfl), inlOk_no (by rfl) (by kernel_rfl), inlOk_no (by rfl) (by kernel_rfl), inlOk_no (by rfl) (by kernel_rfl), inlOk_no (by rfl) (by kernel_rfl), inlOk_no (by rfl) (by kernel_rfl), inlOk_no (by rfl) (by kernel_rfl), inlOk_no (by rfl) (by kernel_rfl), inlOk_no (by rfl) (by kernel_rfl), inlOk_no (by rfl) (by kernel_rfl), inlOk_no (by rfl) (by kernel_rfl), inlOk_no (by rfl) (by kernel_rfl), inlOk_no (by rfl) (by kernel_rfl), inlOk_no (by rfl) (by kernel_rfl), inlOk_no (by rfl) (by kernel_rfl), inlOk_no (by rfl) (by kernel_rfl), inlOk_no (by rfl) (by kernel_rfl), inlOk_no (by rfl) (by kernel_rfl), inlOk_no (by rfl) (by kernel_rfl), inlOk_no (by rfl) (by kernel_rfl), inlOk_no (by rfl) (by kernel_rfl), inlOk_no (by rfl) (by kernel_rfl), inlOk_no (by rfl) (by kernel_rfl), inlOk_no (by rfl) (by kernel_rfl), inlOk_no (by rfl) (by kernel_rfl), inlOk_no (by rfl) (by kernel_rfl), inlOk_no (by rfl) (by kernel_rfl), inlOk_no (by rfl) (by kernel_rfl), inlOk_no (by rfl) (by kernel_rfl), inlOk_no (by rfl) (by kernel_rfl), inlOk_no (by rfl) (by kernel_rfl), inlOk_no (by rfl) (by kernel_rfl), inlOk_no (by rfl) (by kernel_rfl), trivial⟩
theorem run0 : evF C 60 Try.f19 an19 (fun _ => none) [(((.sl (.int .i64)) : K), true), ((.int .i64 : K), false)] [⟨.st (.pr (.str) (.pr (.sl (.st (.pr (.str) (.pr (.int .i64) (.int .i64))))) (.sl (.st (.pr (.str) (.pr (.sl (.st (.pr (.int .i64) (.int .i64)))) (.pr (.sl (.st (.pr (.int .i64) (.int .i64)))) (.pr (.sl (.st (.pr (.int .i64) (.int .i64)))) (.int .i64))))))))), ((⟨#[110]⟩ : ByteArray), [((⟨#[112]⟩ : ByteArray), (1 : Int), (0 : Int)), (⟨#[113]⟩, 0, 0)], [((⟨#[116]⟩ : ByteArray), [((0 : Int), (1 : Int))], [((1 : Int), (1 : Int))], ([] : List (Int × Int)), (0 : Int)), (⟨#[117]⟩, [(1, 1)], [(0, 1)], [], 0)])⟩] = some [.own (.sl (.int .i64)) [[(1 : Int), 1]], .dat (.int .i64) (0 : Int)] := by kernel_rfl
noncomputable def fent : Fent := memo [.st (.pr (.str) (.pr (.sl (.st (.pr (.str) (.pr (.int .i64) (.int .i64))))) (.sl (.st (.pr (.str) (.pr (.sl (.st (.pr (.int .i64) (.int .i64)))) (.pr (.sl (.st (.pr (.int .i64) (.int .i64)))) (.pr (.sl (.st (.pr (.int .i64) (.int .i64)))) (.int .i64)))))))))] [([⟨.st (.pr (.str) (.pr (.sl (.st (.pr (.str) (.pr (.int .i64) (.int .i64))))) (.sl (.st (.pr (.str) (.pr (.sl (.st (.pr (.int .i64) (.int .i64)))) (.pr (.sl (.st (.pr (.int .i64) (.int .i64)))) (.pr (.sl (.st (.pr (.int .i64) (.int .i64)))) (.int .i64))))))))), ((⟨#[110]⟩ : ByteArray), [((⟨#[112]⟩ : ByteArray), (1 : Int), (0 : Int)), (⟨#[113]⟩, 0, 0)], [((⟨#[116]⟩ : ByteArray), [((0 : Int), (1 : Int))], [((1 : Int), (1 : Int))], ([] : List (Int × Int)), (0 : Int)), (⟨#[117]⟩, [(1, 1)], [(0, 1)], [], 0)])⟩], [.own (.sl (.int .i64)) [[(1 : Int), 1]], .dat (.int .i64) (0 : Int)])]
theorem ok : FentOk P 19 fent := memo_ok (by kernel_rfl) ⟨evF_at ctxOk (by rfl) run0, trivial⟩
end memo_cycTrans
end Go.VI
set_option linter.unusedVariables false
set_option maxRecDepth 100000
set_option maxHeartbeats 4000000
noncomputable section
namespace Go.VI
open Go Go.Proofs
namespace petrinetlaw31_lives
noncomputable def an10 : Ann := []
noncomputable def an21 : Ann := [(4, [0, 14, 15, 16], [0, 2, 3]), (11, [6, 33, 34, 35], [2, 3, 6])]
noncomputable def an24 : Ann := [(2, [0, 1, 5], [4]), (5, [0, 1, 5, 13, 14, 15], [0, 1, 5])]
noncomputable def an34 : Ann := []
noncomputable def an35 : Ann := []
noncomputable def an51 : Ann := []
noncomputable def an77 : Ann := [(5, [1, 2, 8, 21, 22, 23], [6, 7, 8])]
noncomputable def an78 : Ann := []
noncomputable def C : Ctx := ⟨tysD, [(12, memo_solve31.fent), (17, memo_cycPlaces.fent), (19, memo_cycTrans.fent)], [(21, ⟨Try.f21, an21, noSm⟩), (24, ⟨Try.f24, an24, noSm⟩), (34, ⟨Try.f34, an34, noSm⟩), (35, ⟨Try.f35, an35, noSm⟩), (51, ⟨Try.f51, an51, noSm⟩), (77, ⟨Try.f77, an77, noSm⟩), (78, ⟨Try.f78, an78, noSm⟩)], 100000⟩
theorem ctxOk : CtxOk P C := ctxOk_of tysDOk mixedOk ⟨memo_solve31.ok, memo_cycPlaces.ok, memo_cycTrans.ok, trivial⟩ ⟨inlOk_no (by rfl) (by kernel_rfl), inlOk_no (by rfl) (by kernel_rfl), inlOk_no (by rfl) (by kernel_rfl), inlOk_no (by rfl) (by kernel_rfl), inlOk_no (by rfl) (by kernel_rfl), inlOk_no (by rfl) (by kernel_rfl), inlOk_no (by rfl) (by kernel_rfl), trivial⟩
theorem runs : evF C 60 Try.f10 an10 (fun _ => none) [(.bool, false)] [] = some [.dat .bool true] := by kernel_rfl
theorem calls : CallsTo P 10 [] [.dat .bool true] := evF_closed ctxOk (by rfl) runs
end petrinetlaw31_lives
theorem petrinetlaw31_lives.ok : FentOk P 10 petrinetlaw31_lives.fent := fentOk_of (by kernel_rfl) fun ds hk => by
  obtain rfl := ds0 hk
  exact ⟨true, [.dat .bool true], fun _ _ => petrinetlaw31_lives.calls, fun α k => rfl⟩
end Go.VI
set_option linter.unusedVariables false
set_option linter.unusedSimpArgs false
set_option maxRecDepth 100000
set_option maxHeartbeats 4000000
noncomputable section
namespace Go.VI
open Go Go.Proofs
namespace safeint_Add
noncomputable def an78 : Ann := []
noncomputable def ents78 {α : Type} (N : Nat) : List (SmE α) := []
noncomputable def C (N : Nat) : Ctx := ⟨tys, [], [], N⟩
theorem ents78_ok {α : Type} (N : Nat) : AllP (EntOk (C N) Try.f78 an78 (ents78 (α := α) N)) (ents78 N) := trivial
noncomputable def g {α : Type} (N : Nat) (a0 : Int) (a1 : Int) (kr : (Int → Bool → Option α)) : Option α :=
  cond (decide (0 < a1)) (cond (decide (IntKind.i64.wrap (9223372036854775807 - a1) < a0)) (kr (0) (false)) (cond (decide (a1 < 0)) (cond (decide (a0 < IntKind.i64.wrap (-9223372036854775808 - a1))) (kr (0) (false)) (kr (IntKind.i64.wrap (a0 + a1)) (true))) (kr (IntKind.i64.wrap (a0 + a1)) (true)))) (cond (decide (a1 < 0)) (cond (decide (a0 < IntKind.i64.wrap (-9223372036854775808 - a1))) (kr (0) (false)) (kr (IntKind.i64.wrap (a0 + a1)) (true))) (kr (IntKind.i64.wrap (a0 + a1)) (true)))
theorem eq (N : Nat) (a0 : Int) (a1 : Int) : evF (C N) 50 Try.f78 an78 (smL (ents78 N) 0 50) [((.int .i64 : K), false), ((.bool : K), false)] [⟨.int .i64, a0⟩, ⟨.int .i64, a1⟩] = g N a0 a1 (fun r0 r1 => some [.dat (K.int IntKind.i64) r0, .dat (K.bool) r1]) := by kernel_rfl
theorem ctxOk (N : Nat) : CtxOk P (C N) := ctxOk_of tysOk mixedOk trivial trivial
theorem calls (N : Nat) (a0 : Int) (a1 : Int) {rs : List Rs} (h : g N a0 a1 (fun r0 r1 => some [.dat (K.int IntKind.i64) r0, .dat (K.bool) r1]) = some rs) : CallsTo P 78 [⟨.int .i64, a0⟩, ⟨.int .i64, a1⟩] rs := evF_calls' (ctxOk N) (by rfl) (ents78_ok N) ((eq N a0 a1).trans h)
end safeint_Add
theorem inI64_iff {x : Int} : inI64 x = true ↔ -9223372036854775808 ≤ x ∧ x ≤ 9223372036854775807 := by simp [inI64]
theorem chk_t {x : Int} (h : -9223372036854775808 ≤ x ∧ x ≤ 9223372036854775807) : chk x = (x, true) := by
  unfold chk
  rw [inI64_iff.2 h]
  rfl
theorem chk_f {x : Int} (h : ¬ (-9223372036854775808 ≤ x ∧ x ≤ 9223372036854775807)) : chk x = (0, false) := by
  unfold chk
  cases hb : inI64 x
  · rfl
  · exact absurd (inI64_iff.1 hb) h
theorem safeint_Add.law {α : Type} {N : Nat} (hN : 18446744073709551616 ≤ N) (a0 : Int) (a1 : Int) (w0 : K.wf (.int .i64) a0) (w1 : K.wf (.int .i64) a1) (kr : (Int → Bool → Option α)) : safeint_Add.g N a0 a1 kr = kr (safeint_Add.spec a0 a1).1 (safeint_Add.spec a0 a1).2 := by
  obtain ⟨h1, h2⟩ := inI_i64.1 w0
  obtain ⟨h3, h4⟩ := inI_i64.1 w1
  unfold safeint_Add.g safeint_Add.spec
  by_cases hp : 0 < a1
  · have e1 : decide (0 < a1) = true := decide_eq_true hp
    have e2 : IntKind.i64.wrap (9223372036854775807 - a1) = 9223372036854775807 - a1 := wrap_i64 (inI_i64.2 (by omega))
    have e3 : decide (a1 < 0) = false := decide_eq_false (by omega)
    by_cases h : 9223372036854775807 - a1 < a0
    · rw [chk_f (by omega)]
      simp only [e1, e2, decide_eq_true h, cond_true]
    · rw [chk_t (by omega)]
      simp only [e1, e2, e3, decide_eq_false h, cond_true, cond_false]
      rw [wrap_i64 (inI_i64.2 (by omega))]
  · have e1 : decide (0 < a1) = false := decide_eq_false hp
    by_cases hn : a1 < 0
    · have e2 : IntKind.i64.wrap (-9223372036854775808 - a1) = -9223372036854775808 - a1 := wrap_i64 (inI_i64.2 (by omega))
      by_cases h : a0 < -9223372036854775808 - a1
      · rw [chk_f (by omega)]
        simp only [e1, e2, decide_eq_true hn, decide_eq_true h, cond_true, cond_false]
      · rw [chk_t (by omega)]
        simp only [e1, e2, decide_eq_true hn, decide_eq_false h, cond_true, cond_false]
        rw [wrap_i64 (inI_i64.2 (by omega))]
    · rw [chk_t (by omega)]
      simp only [e1, decide_eq_false hn, cond_false]
      rw [wrap_i64 (inI_i64.2 (by omega))]

theorem safeint_Add.ok : FentOk P 78 safeint_Add.fent := fentOk_of (by kernel_rfl) fun ds hk => by
  obtain ⟨a0, l0, rfl, h0⟩ := ds_cons hk
  obtain ⟨a1, l1, rfl, h1⟩ := ds_cons h0
  obtain rfl := ds0 h1
  exact ⟨true, [.dat (.int .i64) (safeint_Add.spec a0 a1).1, .dat (.bool) (safeint_Add.spec a0 a1).2], fun h hw => safeint_Add.calls 18446744073709551616 a0 a1 (safeint_Add.law (Nat.le_refl _) a0 a1 hw.1 hw.2.1 _), fun α k => rfl⟩
end Go.VI
set_option linter.unusedVariables false
set_option linter.unusedSimpArgs false
set_option maxRecDepth 100000
set_option maxHeartbeats 4000000
noncomputable section
namespace Go.VI
open Go Go.Proofs
namespace vector_Add
noncomputable def an51 : Ann := []
noncomputable def an77 : Ann := [(5, [1, 2, 8, 21, 22, 23], [6, 7, 8])]
noncomputable def L0.sh : Sh := { sl := [(1, SV.a (SA.d (K.int IntKind.i64).sl)), (2, SV.a (SA.fx (Atom.fn 78 []))), (8, SV.a (SA.fx (Atom.sl 0 0 none))), (21, SV.a (SA.d (K.int IntKind.i64).sl)), (22, SV.a (SA.d (K.int IntKind.i64))), (23, SV.a (SA.d (K.int IntKind.i64)))], os := [(0, SO.row (K.int IntKind.i64) 0)], nx := 1 }
noncomputable def L0.x0 : Sh := { sl := [(6, SV.a (SA.fx (Atom.sl 0 0 none))), (7, SV.a (SA.d (K.int IntKind.i64))), (8, SV.a (SA.fx (Atom.sl 1 0 none)))], os := [(0, SO.row (K.int IntKind.i64) 0), (1, SO.row (K.int IntKind.i64) 0)], nx := 2 }
noncomputable def L0.x1 : Sh := { sl := [(6, SV.j), (7, SV.j), (8, SV.a (SA.fx (Atom.sl 0 0 none)))], os := [(0, SO.row (K.int IntKind.i64) 0)], nx := 1 }
noncomputable def L0.st {α : Type} (N : Nat) (x0 : (List Int)) (x1 : (List Int)) (x2 : Int) (φ : (Int → (List Int) → Option α)) (x3 : Int) (x4 : (List Int)) (k0 : (Int → (List Int) → (List Int) → Option α)) (k1 : ((List Int) → Option α)) : Option α :=
  cond (decide (x3 < x2)) (cond (decide (0 ≤ x3) && decide (x3 < (↑x1.length : Int))) (cond (decide (0 ≤ x3) && decide (x3 < (↑x0.length : Int))) (cond ((safeint_Add.spec (x1.getD x3.toNat 0) (x0.getD x3.toNat 0)).snd) (cond (decide (0 ≤ x3) && decide (x3 < (↑x4.length : Int))) (φ (IntKind.i64.wrap (x3 + 1)) (x4.set (0 + x3.toNat) (safeint_Add.spec (x1.getD x3.toNat 0) (x0.getD x3.toNat 0)).fst)) (none)) (k0 (3) ([]) (x4))) (none)) (none)) (k1 (x4))
noncomputable def L0.f {α : Type} (N : Nat) (c0 : (List Int)) (c1 : (List Int)) (c2 : Int) : Nat → Int → (List Int) → (Int → (List Int) → (List Int) → Option α) → ((List Int) → Option α) → Option α
  | 0, _, _, _, _ => none
  | n + 1, d0, d1, k0, k1 => L0.st N c0 c1 c2 (fun e0 e1 => L0.f N c0 c1 c2 n e0 e1 k0 k1) d0 d1 k0 k1
noncomputable def L0.F {α : Type} (N : Nat) (d : L0.sh.T) (K : Cont α) : Option α := L0.f N d.1.1 d.1.2.2.2.1 d.1.2.2.2.2.1 N d.1.2.2.2.2.2.1 d.2.1 (fun y0 y1 y2 => K (Exit.ret) (L0.x0.enc (((), (y0, ((), ()))), (y1, (y2, ()))))) (fun y0 => K (Exit.exit 0) (L0.x1.enc (((), ((), ((), ()))), (y0, ()))))
noncomputable def ents51 {α : Type} (N : Nat) : List (SmE α) := []
noncomputable def ents77 {α : Type} (N : Nat) : List (SmE α) := [⟨0, 49, 5, [⟨L0.sh, L0.F N⟩]⟩]
noncomputable def C (N : Nat) : Ctx := ⟨tys, [(78, safeint_Add.fent)], [(77, ⟨Try.f77, an77, fun α lo d r => smL (ents77 N) lo d r⟩)], N⟩
noncomputable def L0.B {α : Type} (N : Nat) : Env → Cont α → Option α := evC tys 45 0 (evCall (C N) 49) (evCallQ (C N)) N an77 (smL (ents77 N) 0 49) (loopOf 5 Try.f77)
theorem L0.r {α : Type} (N : Nat) (c0 : (List Int)) (c1 : (List Int)) (c2 : Int) (φ : Env → Option α) (K : Cont α) (d0 : Int) (d1 : (List Int)) : L0.B N (L0.sh.enc ((c0, ((), ((), (c1, (c2, (d0, ())))))), (d1, ()))) (contL φ K (Env.norm 0 [1, 2, 8, 21, 22, 23]) (Env.norm 0 [6, 7, 8])) = L0.st N c0 c1 c2 (fun e0 e1 => φ (L0.sh.enc ((c0, ((), ((), (c1, (c2, (e0, ())))))), (e1, ())))) d0 d1 (fun y0 y1 y2 => K (Exit.ret) (L0.x0.enc (((), (y0, ((), ()))), (y1, (y2, ()))))) (fun y0 => K (Exit.exit 0) (L0.x1.enc (((), ((), ((), ()))), (y0, ())))) := by kernel_rfl
theorem L0.e {α : Type} (N : Nat) (c0 : (List Int)) (c1 : (List Int)) (c2 : Int) : ∀ (n : Nat) (d0 : Int) (d1 : (List Int)) (K : Cont α), evL (L0.B N) (Env.norm 0 [1, 2, 8, 21, 22, 23]) (Env.norm 0 [6, 7, 8]) n (L0.sh.enc ((c0, ((), ((), (c1, (c2, (d0, ())))))), (d1, ()))) K = L0.f N c0 c1 c2 n d0 d1 (fun y0 y1 y2 => K (Exit.ret) (L0.x0.enc (((), (y0, ((), ()))), (y1, (y2, ()))))) (fun y0 => K (Exit.exit 0) (L0.x1.enc (((), ((), ((), ()))), (y0, ()))))
  | 0, d0, d1, K => rfl
  | n + 1, d0, d1, K => evL_contL.trans ((L0.r N c0 c1 c2 (fun e => evL (L0.B N) (Env.norm 0 [1, 2, 8, 21, 22, 23]) (Env.norm 0 [6, 7, 8]) n e K) K d0 d1).trans (congrArg (fun φ => L0.st N c0 c1 c2 φ d0 d1 (fun y0 y1 y2 => K (Exit.ret) (L0.x0.enc (((), (y0, ((), ()))), (y1, (y2, ()))))) (fun y0 => K (Exit.exit 0) (L0.x1.enc (((), ((), ((), ()))), (y0, ()))))) (funext fun e0 => funext fun e1 => L0.e N c0 c1 c2 n e0 e1 K)))
theorem ents51_ok {α : Type} (N : Nat) : AllP (EntOk (C N) Try.f51 an51 (ents51 (α := α) N)) (ents51 N) := trivial
theorem ents77_ok {α : Type} (N : Nat) : AllP (EntOk (C N) Try.f77 an77 (ents77 (α := α) N)) (ents77 N) := ⟨entOk_of (b0 := loopOf 5 Try.f77) (li0 := [1, 2, 8, 21, 22, 23]) (lx0 := [6, 7, 8]) (by kernel_rfl) (by kernel_rfl) ⟨fun d K => L0.e N d.1.1 d.1.2.2.2.1 d.1.2.2.2.2.1 N d.1.2.2.2.2.2.1 d.2.1 K, trivial⟩, trivial⟩
noncomputable def g {α : Type} (N : Nat) (a0 : List Int) (a1 : List Int) (kr : ((List Int) → Int → Option α)) : Option α :=
  cond ((↑a0.length : Int) != (↑a1.length : Int)) (kr ([]) (2)) (cond (decide (0 ≤ (↑a0.length : Int)) && decide ((↑a0.length : Int) ≤ (↑a0.length : Int)) && decide ((↑a0.length : Int) ≤ 1073741824)) (L0.f N (a1) (a0) ((↑a0.length : Int)) N (0) (List.replicate (↑a0.length : Int).toNat 0) (fun x5 x6 x7 => kr (x6) (x5)) (fun x8 => kr (x8) (0))) (none))
theorem eq (N : Nat) (a0 : List Int) (a1 : List Int) : evF (C N) 50 Try.f51 an51 (smL (ents51 N) 0 50) [(((.int .i64) : K), true), ((.int .i64 : K), false)] [⟨.sl (.int .i64), a0⟩, ⟨.sl (.int .i64), a1⟩] = g N a0 a1 (fun r0 r1 => some [.own (K.int IntKind.i64) r0, .dat (K.int IntKind.i64) r1]) := by kernel_rfl
theorem ctxOk (N : Nat) : CtxOk P (C N) := ctxOk_of tysOk mixedOk ⟨safeint_Add.ok, trivial⟩ ⟨⟨⟨by rfl, by kernel_rfl⟩, fun α lo d c hc => smL_ok (ents77_ok N) lo d hc⟩, trivial⟩
theorem calls (N : Nat) (a0 : List Int) (a1 : List Int) {rs : List Rs} (h : g N a0 a1 (fun r0 r1 => some [.own (K.int IntKind.i64) r0, .dat (K.int IntKind.i64) r1]) = some rs) : CallsTo P 51 [⟨.sl (.int .i64), a0⟩, ⟨.sl (.int .i64), a1⟩] rs := evF_calls' (ctxOk N) (by rfl) (ents51_ok N) ((eq N a0 a1).trans h)
noncomputable def L0.l {α : Type} (N : Nat) (x0 : (List Int)) (x1 : (List Int)) (k0 : (Int → (List Int) → (List Int) → Option α)) (k1 : ((List Int) → Option α)) : List Int → Int → (List Int) → Option α
  | [], x3, x4 => k1 (x4)
  | x :: l, x3, x4 => (cond (decide (0 ≤ x3) && decide (x3 < (↑x0.length : Int))) (cond ((safeint_Add.spec x (x0.getD x3.toNat 0)).snd) (cond (decide (0 ≤ x3) && decide (x3 < (↑x4.length : Int))) (L0.l N x0 x1 k0 k1 l (x3 + 1) (x4.set (0 + x3.toNat) (safeint_Add.spec x (x0.getD x3.toNat 0)).fst)) (none)) (k0 (3) ([]) (x4))) (none))
theorem L0.rng {α : Type} {N : Nat} (x0 : (List Int)) (x1 : (List Int)) (hl : x1.length ≤ maxLen) (k0 : (Int → (List Int) → (List Int) → Option α)) (k1 : ((List Int) → Option α)) : ∀ (n j : Nat) (x4 : (List Int)), x1.length < n + j → j ≤ x1.length → L0.f N x0 x1 (x1.length : Int) n (j : Int) x4 k0 k1 = L0.l N x0 x1 k0 k1 (x1.drop j) (j : Int) x4
  | 0, j, x4, h, hj => absurd h (by omega)
  | n + 1, j, x4, h, hj => by
    by_cases hlt : j < x1.length
    · have e1 : decide ((j : Int) < (x1.length : Int)) = true := decide_eq_true (Int.ofNat_lt.2 hlt)
      have e2 : decide ((0 : Int) ≤ (j : Int)) = true := decide_eq_true (Int.natCast_nonneg j)
      have e3 : ∀ z, x1.getD (Int.toNat (j : Int)) z = x1[j] := fun z => by rw [Int.toNat_natCast]; exact (List.getElem_eq_getD z).symm
      have e3' : ∀ z, x1.getD (0 + Int.toNat (j : Int)) z = x1[j] := fun z => by rw [Nat.zero_add]; exact e3 z
      have e4 : IntKind.i64.wrap ((j : Int) + 1) = (j : Int) + 1 := wrap_next hlt hl
      have ih : ∀ (x4 : (List Int)), L0.f N x0 x1 (x1.length : Int) n ((j : Int) + 1) x4 k0 k1 = L0.l N x0 x1 k0 k1 (x1.drop (j + 1)) ((j : Int) + 1) x4 := fun x4 => L0.rng x0 x1 hl k0 k1 n (j + 1) x4 (by omega) (by omega)
      rw [List.drop_eq_getElem_cons hlt]
      first
        | (simp only [L0.f, L0.st, L0.l, e1, e2, e3, e3', e4, Bool.true_and, Bool.and_true, Bool.and_self, cond_true, ih]; done)
        | (simp only [L0.f, L0.st, L0.l, e1, e2, e3, e3', e4, Bool.true_and, Bool.and_true, Bool.and_self, cond_true, ih]; rfl)
    · have e1 : decide ((j : Int) < (x1.length : Int)) = false := decide_eq_false (fun hc => hlt (Int.ofNat_lt.1 hc))
      rw [List.drop_eq_nil_of_le (by omega)]
      simp only [L0.f, L0.st, L0.l, e1, cond_false]
end vector_Add
theorem vector_Add.L0.law {α : Type} {N : Nat} (b a : List Int) (k0 : Int → List Int → Option α) (k1 : List Int → Option α) (hab : a.length = b.length) : ∀ (l : List Int) (j : Nat) (pre : List Int), pre.length = j → l = a.drop j →
    vector_Add.L0.l N b a (fun x y _ => k0 x y) k1 l (j : Int) (pre ++ List.replicate l.length 0) = match vecOp (· + ·) l (b.drop j) with | some r => k1 (pre ++ r) | none => k0 3 []
  | [], j, pre, hp, hl => by simp [vector_Add.L0.l, vecOp]
  | x :: l, j, pre, hp, hl => by
    obtain ⟨hj, hx, hl'⟩ := drop_step hl
    have hb : j < b.length := hab ▸ hj
    rw [List.drop_eq_getElem_cons hb]
    have e1 : decide ((j : Int) < ((pre ++ List.replicate (x :: l).length (0 : Int)).length : Int)) = true := d_lt (by simp; omega)
    simp only [vector_Add.L0.l, d_0, d_lt hb, getD_n hb, e1, Bool.and_self, cond_true, Nat.zero_add, Int.toNat_natCast, vecOp]
    unfold safeint_Add.spec chk
    cases hi : inI64 (x + b[j])
    · simp only [cond_false]
    · simp only [cond_true, List.length_cons, List.replicate_succ]
      rw [set_mid pre _ 0 _ hp, ← succ_cast]
      have ih := vector_Add.L0.law (N := N) b a k0 k1 hab l (j + 1) (pre ++ [x + b[j]]) (by simp [hp]) hl'
      simp only [List.append_assoc, List.singleton_append] at ih
      rw [ih]
      cases vecOp (· + ·) l (b.drop (j + 1)) <;> rfl
theorem vector_Add.law {α : Type} {N : Nat} (hN : 18446744073709551616 ≤ N) (a0 : List Int) (a1 : List Int) (w0 : K.wf (.sl (.int .i64)) a0) (w1 : K.wf (.sl (.int .i64)) a1) (hp : vector_Add.pre a0 a1 = true) (kr : ((List Int) → Int → Option α)) : vector_Add.g N a0 a1 kr = kr (vector_Add.spec a0 a1).1 (vector_Add.spec a0 a1).2 := by
  unfold vector_Add.g vector_Add.spec vecRes
  simp only [vector_Add.pre, decide_eq_true_eq] at hp
  rw [bne_len]
  by_cases h : a0.length = a1.length
  · have e1 : decide ((a0.length : Int) ≤ 1073741824) = true := decide_eq_true (by omega)
    simp only [beq_t h, Bool.not_true, cond_false, cond_true, d_0, e1, Int.le_refl, decide_true, Bool.and_self, Int.toNat_natCast]
    have h1 := vector_Add.L0.rng (N := N) a1 a0 w0.1 (fun x5 x6 x7 => kr x6 x5) (fun x8 => kr x8 0) N 0 (List.replicate a0.length 0) (by have := le_fuel w0.1 hN; omega) (Nat.zero_le _)
    have h2 := vector_Add.L0.law (N := N) a1 a0 (fun x5 x6 => kr x6 x5) (fun x8 => kr x8 0) h a0 0 [] rfl rfl
    simp only [List.drop_zero] at h1 h2
    refine h1.trans (h2.trans ?_)
    cases vecOp (· + ·) a0 a1 <;> rfl
  · simp only [beq_f h, Bool.not_false, cond_true, cond_false]

theorem vector_Add.ok : FentOk P 51 vector_Add.fent := fentOk_of (by kernel_rfl) fun ds hk => by
  obtain ⟨a0, l0, rfl, h0⟩ := ds_cons hk
  obtain ⟨a1, l1, rfl, h1⟩ := ds_cons h0
  obtain rfl := ds0 h1
  exact ⟨vector_Add.pre a0 a1, [.own (.int .i64) (vector_Add.spec a0 a1).1, .dat (.int .i64) (vector_Add.spec a0 a1).2], fun h hw => vector_Add.calls 18446744073709551616 a0 a1 (vector_Add.law (Nat.le_refl _) a0 a1 hw.1 hw.2.1 h _), fun α k => rfl⟩
end Go.VI
set_option linter.unusedVariables false
set_option linter.unusedSimpArgs false
set_option maxRecDepth 100000
set_option maxHeartbeats 4000000
noncomputable section
namespace Go.VI
open Go Go.Proofs
namespace semiflow_Sum
noncomputable def an21 : Ann := [(4, [0, 14, 15, 16], [0, 2, 3]), (11, [6, 33, 34, 35], [2, 3, 6])]
noncomputable def L0.sh : Sh := { sl := [(0, SV.a (SA.d (K.int IntKind.i64).sl.sl)), (14, SV.a (SA.d (K.int IntKind.i64).sl.sl)), (15, SV.a (SA.d (K.int IntKind.i64))), (16, SV.a (SA.d (K.int IntKind.i64)))], os := [], nx := 0 }
noncomputable def L0.x0 : Sh := { sl := [(0, SV.a (SA.d (K.int IntKind.i64).sl.sl)), (2, SV.a (SA.fx (Atom.sl 0 0 none))), (3, SV.a (SA.d (K.int IntKind.i64)))], os := [(0, SO.row (K.int IntKind.i64) 0)], nx := 1 }
noncomputable def L0.x1 : Sh := { sl := [(0, SV.a (SA.d (K.int IntKind.i64).sl.sl)), (2, SV.j), (3, SV.j)], os := [], nx := 0 }
noncomputable def L0.st {α : Type} (N : Nat) (x0 : (List (List Int))) (x1 : (List (List Int))) (x2 : Int) (φ : (Int → Option α)) (x3 : Int) (k0 : (Int → (List Int) → Option α)) (k1 : Option α) : Option α :=
  cond (decide (x3 < x2)) (cond (decide (0 ≤ x3) && decide (x3 < (↑x1.length : Int))) (cond (decide (0 ≤ 0) && decide (0 < (↑x0.length : Int))) (cond ((↑(List.length (x1.getD x3.toNat [])) : Int) != (↑(List.length (x0.getD (Int.toNat 0) [])) : Int)) (k0 (2) ([])) (φ (IntKind.i64.wrap (x3 + 1)))) (none)) (none)) (k1 )
noncomputable def L0.f {α : Type} (N : Nat) (c0 : (List (List Int))) (c1 : (List (List Int))) (c2 : Int) : Nat → Int → (Int → (List Int) → Option α) → Option α → Option α
  | 0, _, _, _ => none
  | n + 1, d0, k0, k1 => L0.st N c0 c1 c2 (fun e0 => L0.f N c0 c1 c2 n e0 k0 k1) d0 k0 k1
noncomputable def L0.F {α : Type} (N : Nat) (d : L0.sh.T) (K : Cont α) : Option α := L0.f N d.1.1 d.1.2.1 d.1.2.2.1 N d.1.2.2.2.1 (fun y0 y1 => K (Exit.ret) (L0.x0.enc ((d.1.1, ((), (y0, ()))), (y1, ())))) (K (Exit.exit 0) (L0.x1.enc ((d.1.1, ((), ((), ()))), ())))
noncomputable def L1.sh : Sh := { sl := [(6, SV.a (SA.fx (Atom.sl 0 0 none))), (33, SV.a (SA.d (K.int IntKind.i64).sl.sl)), (34, SV.a (SA.d (K.int IntKind.i64))), (35, SV.a (SA.d (K.int IntKind.i64)))], os := [(0, SO.row (K.int IntKind.i64) 0)], nx := 1 }
noncomputable def L1.x0 : Sh := { sl := [(2, SV.a (SA.fx (Atom.sl 0 0 none))), (3, SV.a (SA.d (K.int IntKind.i64))), (6, SV.a (SA.fx (Atom.sl 1 0 none)))], os := [(0, SO.row (K.int IntKind.i64) 0), (1, SO.row (K.int IntKind.i64) 0)], nx := 2 }
noncomputable def L1.x1 : Sh := { sl := [(2, SV.j), (3, SV.j), (6, SV.a (SA.fx (Atom.sl 0 0 none)))], os := [(0, SO.row (K.int IntKind.i64) 0)], nx := 1 }
noncomputable def L1.st {α : Type} (N : Nat) (x6 : (List (List Int))) (x7 : Int) (φ : (Int → (List Int) → Option α)) (x8 : Int) (x9 : (List Int)) (k0 : (Int → (List Int) → (List Int) → Option α)) (k1 : ((List Int) → Option α)) : Option α :=
  cond (decide (x8 < x7)) (cond (decide (0 ≤ x8) && decide (x8 < (↑x6.length : Int))) (cond (vector_Add.pre x9 (x6.getD x8.toNat [])) (cond ((vector_Add.spec x9 (x6.getD x8.toNat [])).snd != 0) (k0 ((vector_Add.spec x9 (x6.getD x8.toNat [])).snd) ([]) (x9)) (φ (IntKind.i64.wrap (x8 + 1)) ((vector_Add.spec x9 (x6.getD x8.toNat [])).fst))) (none)) (none)) (k1 (x9))
noncomputable def L1.f {α : Type} (N : Nat) (c0 : (List (List Int))) (c1 : Int) : Nat → Int → (List Int) → (Int → (List Int) → (List Int) → Option α) → ((List Int) → Option α) → Option α
  | 0, _, _, _, _ => none
  | n + 1, d0, d1, k0, k1 => L1.st N c0 c1 (fun e0 e1 => L1.f N c0 c1 n e0 e1 k0 k1) d0 d1 k0 k1
noncomputable def L1.F {α : Type} (N : Nat) (d : L1.sh.T) (K : Cont α) : Option α := L1.f N d.1.2.1 d.1.2.2.1 N d.1.2.2.2.1 d.2.1 (fun y0 y1 y2 => K (Exit.ret) (L1.x0.enc (((), (y0, ((), ()))), (y1, (y2, ()))))) (fun y0 => K (Exit.exit 2) (L1.x1.enc (((), ((), ((), ()))), (y0, ()))))
noncomputable def ents21 {α : Type} (N : Nat) : List (SmE α) := [⟨0, 50, 4, [⟨L0.sh, L0.F N⟩]⟩, ⟨0, 50, 11, [⟨L1.sh, L1.F N⟩]⟩]
noncomputable def C (N : Nat) : Ctx := ⟨tys, [(51, vector_Add.fent)], [], N⟩
noncomputable def L0.B {α : Type} (N : Nat) : Env → Cont α → Option α := evC tys 51 0 (evCall (C N) 50) (evCallQ (C N)) N an21 (smL (ents21 N) 0 50) (loopOf 4 Try.f21)
theorem L0.r {α : Type} (N : Nat) (c0 : (List (List Int))) (c1 : (List (List Int))) (c2 : Int) (φ : Env → Option α) (K : Cont α) (d0 : Int) : L0.B N (L0.sh.enc ((c0, (c1, (c2, (d0, ())))), ())) (contL φ K (Env.norm 0 [0, 14, 15, 16]) (Env.norm 0 [0, 2, 3])) = L0.st N c0 c1 c2 (fun e0 => φ (L0.sh.enc ((c0, (c1, (c2, (e0, ())))), ()))) d0 (fun y0 y1 => K (Exit.ret) (L0.x0.enc ((c0, ((), (y0, ()))), (y1, ())))) (K (Exit.exit 0) (L0.x1.enc ((c0, ((), ((), ()))), ()))) := by kernel_rfl
theorem L0.e {α : Type} (N : Nat) (c0 : (List (List Int))) (c1 : (List (List Int))) (c2 : Int) : ∀ (n : Nat) (d0 : Int) (K : Cont α), evL (L0.B N) (Env.norm 0 [0, 14, 15, 16]) (Env.norm 0 [0, 2, 3]) n (L0.sh.enc ((c0, (c1, (c2, (d0, ())))), ())) K = L0.f N c0 c1 c2 n d0 (fun y0 y1 => K (Exit.ret) (L0.x0.enc ((c0, ((), (y0, ()))), (y1, ())))) (K (Exit.exit 0) (L0.x1.enc ((c0, ((), ((), ()))), ())))
  | 0, d0, K => rfl
  | n + 1, d0, K => evL_contL.trans ((L0.r N c0 c1 c2 (fun e => evL (L0.B N) (Env.norm 0 [0, 14, 15, 16]) (Env.norm 0 [0, 2, 3]) n e K) K d0).trans (congrArg (fun φ => L0.st N c0 c1 c2 φ d0 (fun y0 y1 => K (Exit.ret) (L0.x0.enc ((c0, ((), (y0, ()))), (y1, ())))) (K (Exit.exit 0) (L0.x1.enc ((c0, ((), ((), ()))), ())))) (funext fun e0 => L0.e N c0 c1 c2 n e0 K)))
noncomputable def L1.B {α : Type} (N : Nat) : Env → Cont α → Option α := evC tys 51 0 (evCall (C N) 50) (evCallQ (C N)) N an21 (smL (ents21 N) 0 50) (loopOf 11 Try.f21)
theorem L1.r {α : Type} (N : Nat) (c0 : (List (List Int))) (c1 : Int) (φ : Env → Option α) (K : Cont α) (d0 : Int) (d1 : (List Int)) : L1.B N (L1.sh.enc (((), (c0, (c1, (d0, ())))), (d1, ()))) (contL φ K (Env.norm 0 [6, 33, 34, 35]) (Env.norm 0 [2, 3, 6])) = L1.st N c0 c1 (fun e0 e1 => φ (L1.sh.enc (((), (c0, (c1, (e0, ())))), (e1, ())))) d0 d1 (fun y0 y1 y2 => K (Exit.ret) (L1.x0.enc (((), (y0, ((), ()))), (y1, (y2, ()))))) (fun y0 => K (Exit.exit 2) (L1.x1.enc (((), ((), ((), ()))), (y0, ())))) := by kernel_rfl
theorem L1.e {α : Type} (N : Nat) (c0 : (List (List Int))) (c1 : Int) : ∀ (n : Nat) (d0 : Int) (d1 : (List Int)) (K : Cont α), evL (L1.B N) (Env.norm 0 [6, 33, 34, 35]) (Env.norm 0 [2, 3, 6]) n (L1.sh.enc (((), (c0, (c1, (d0, ())))), (d1, ()))) K = L1.f N c0 c1 n d0 d1 (fun y0 y1 y2 => K (Exit.ret) (L1.x0.enc (((), (y0, ((), ()))), (y1, (y2, ()))))) (fun y0 => K (Exit.exit 2) (L1.x1.enc (((), ((), ((), ()))), (y0, ()))))
  | 0, d0, d1, K => rfl
  | n + 1, d0, d1, K => evL_contL.trans ((L1.r N c0 c1 (fun e => evL (L1.B N) (Env.norm 0 [6, 33, 34, 35]) (Env.norm 0 [2, 3, 6]) n e K) K d0 d1).trans (congrArg (fun φ => L1.st N c0 c1 φ d0 d1 (fun y0 y1 y2 => K (Exit.ret) (L1.x0.enc (((), (y0, ((), ()))), (y1, (y2, ()))))) (fun y0 => K (Exit.exit 2) (L1.x1.enc (((), ((), ((), ()))), (y0, ()))))) (funext fun e0 => funext fun e1 => L1.e N c0 c1 n e0 e1 K)))
theorem ents21_ok {α : Type} (N : Nat) : AllP (EntOk (C N) Try.f21 an21 (ents21 (α := α) N)) (ents21 N) := ⟨entOk_of (b0 := loopOf 4 Try.f21) (li0 := [0, 14, 15, 16]) (lx0 := [0, 2, 3]) (by kernel_rfl) (by kernel_rfl) ⟨fun d K => L0.e N d.1.1 d.1.2.1 d.1.2.2.1 N d.1.2.2.2.1 K, trivial⟩, entOk_of (b0 := loopOf 11 Try.f21) (li0 := [6, 33, 34, 35]) (lx0 := [2, 3, 6]) (by kernel_rfl) (by kernel_rfl) ⟨fun d K => L1.e N d.1.2.1 d.1.2.2.1 N d.1.2.2.2.1 d.2.1 K, trivial⟩, trivial⟩
noncomputable def g {α : Type} (N : Nat) (a0 : List (List Int)) (kr : ((List Int) → Int → Option α)) : Option α :=
  cond ((↑a0.length : Int) == 0) (kr ([]) (2)) (L0.f N (a0) (a0) ((↑a0.length : Int)) N (0) (fun x4 x5 => kr (x5) (x4)) (cond (decide (0 ≤ 0) && decide (0 < (↑a0.length : Int))) (cond (decide (0 ≤ (↑(List.length (a0.getD (Int.toNat 0) [])) : Int)) && decide ((↑(List.length (a0.getD (Int.toNat 0) [])) : Int) ≤ (↑(List.length (a0.getD (Int.toNat 0) [])) : Int)) && decide ((↑(List.length (a0.getD (Int.toNat 0) [])) : Int) ≤ 1073741824)) (L1.f N (a0) ((↑a0.length : Int)) N (0) (List.replicate (↑(List.length (a0.getD (Int.toNat 0) [])) : Int).toNat 0) (fun x10 x11 x12 => kr (x11) (x10)) (fun x13 => kr (x13) (0))) (none)) (none)))
theorem eq (N : Nat) (a0 : List (List Int)) : evF (C N) 50 Try.f21 an21 (smL (ents21 N) 0 50) [(((.int .i64) : K), true), ((.int .i64 : K), false)] [⟨.sl (.sl (.int .i64)), a0⟩] = g N a0 (fun r0 r1 => some [.own (K.int IntKind.i64) r0, .dat (K.int IntKind.i64) r1]) := by kernel_rfl
theorem ctxOk (N : Nat) : CtxOk P (C N) := ctxOk_of tysOk mixedOk ⟨vector_Add.ok, trivial⟩ trivial
theorem calls (N : Nat) (a0 : List (List Int)) {rs : List Rs} (h : g N a0 (fun r0 r1 => some [.own (K.int IntKind.i64) r0, .dat (K.int IntKind.i64) r1]) = some rs) : CallsTo P 21 [⟨.sl (.sl (.int .i64)), a0⟩] rs := evF_calls' (ctxOk N) (by rfl) (ents21_ok N) ((eq N a0).trans h)
noncomputable def L0.l {α : Type} (N : Nat) (x0 : (List (List Int))) (x1 : (List (List Int))) (k0 : (Int → (List Int) → Option α)) (k1 : Option α) : List (List Int) → Int → Option α
  | [], x3 => k1 
  | x :: l, x3 => (cond (decide (0 ≤ 0) && decide (0 < (↑x0.length : Int))) (cond ((↑(List.length x) : Int) != (↑(List.length (x0.getD (Int.toNat 0) [])) : Int)) (k0 (2) ([])) (L0.l N x0 x1 k0 k1 l (x3 + 1))) (none))
theorem L0.rng {α : Type} {N : Nat} (x0 : (List (List Int))) (x1 : (List (List Int))) (hl : x1.length ≤ maxLen) (k0 : (Int → (List Int) → Option α)) (k1 : Option α) : ∀ (n j : Nat), x1.length < n + j → j ≤ x1.length → L0.f N x0 x1 (x1.length : Int) n (j : Int) k0 k1 = L0.l N x0 x1 k0 k1 (x1.drop j) (j : Int)
  | 0, j, h, hj => absurd h (by omega)
  | n + 1, j, h, hj => by
    by_cases hlt : j < x1.length
    · have e1 : decide ((j : Int) < (x1.length : Int)) = true := decide_eq_true (Int.ofNat_lt.2 hlt)
      have e2 : decide ((0 : Int) ≤ (j : Int)) = true := decide_eq_true (Int.natCast_nonneg j)
      have e3 : ∀ z, x1.getD (Int.toNat (j : Int)) z = x1[j] := fun z => by rw [Int.toNat_natCast]; exact (List.getElem_eq_getD z).symm
      have e3' : ∀ z, x1.getD (0 + Int.toNat (j : Int)) z = x1[j] := fun z => by rw [Nat.zero_add]; exact e3 z
      have e4 : IntKind.i64.wrap ((j : Int) + 1) = (j : Int) + 1 := wrap_next hlt hl
      have ih : ∀ (_ : Unit), L0.f N x0 x1 (x1.length : Int) n ((j : Int) + 1) k0 k1 = L0.l N x0 x1 k0 k1 (x1.drop (j + 1)) ((j : Int) + 1) := fun _ => L0.rng x0 x1 hl k0 k1 n (j + 1) (by omega) (by omega)
      rw [List.drop_eq_getElem_cons hlt]
      replace ih := ih ()
      first
        | (simp only [L0.f, L0.st, L0.l, e1, e2, e3, e3', e4, Bool.true_and, Bool.and_true, Bool.and_self, cond_true, ih]; done)
        | (simp only [L0.f, L0.st, L0.l, e1, e2, e3, e3', e4, Bool.true_and, Bool.and_true, Bool.and_self, cond_true, ih]; rfl)
    · have e1 : decide ((j : Int) < (x1.length : Int)) = false := decide_eq_false (fun hc => hlt (Int.ofNat_lt.1 hc))
      rw [List.drop_eq_nil_of_le (by omega)]
      simp only [L0.f, L0.st, L0.l, e1, cond_false]
noncomputable def L1.l {α : Type} (N : Nat) (x6 : (List (List Int))) (k0 : (Int → (List Int) → (List Int) → Option α)) (k1 : ((List Int) → Option α)) : List (List Int) → Int → (List Int) → Option α
  | [], x8, x9 => k1 (x9)
  | x :: l, x8, x9 => (cond (vector_Add.pre x9 x) (cond ((vector_Add.spec x9 x).snd != 0) (k0 ((vector_Add.spec x9 x).snd) ([]) (x9)) (L1.l N x6 k0 k1 l (x8 + 1) ((vector_Add.spec x9 x).fst))) (none))
theorem L1.rng {α : Type} {N : Nat} (x6 : (List (List Int))) (hl : x6.length ≤ maxLen) (k0 : (Int → (List Int) → (List Int) → Option α)) (k1 : ((List Int) → Option α)) : ∀ (n j : Nat) (x9 : (List Int)), x6.length < n + j → j ≤ x6.length → L1.f N x6 (x6.length : Int) n (j : Int) x9 k0 k1 = L1.l N x6 k0 k1 (x6.drop j) (j : Int) x9
  | 0, j, x9, h, hj => absurd h (by omega)
  | n + 1, j, x9, h, hj => by
    by_cases hlt : j < x6.length
    · have e1 : decide ((j : Int) < (x6.length : Int)) = true := decide_eq_true (Int.ofNat_lt.2 hlt)
      have e2 : decide ((0 : Int) ≤ (j : Int)) = true := decide_eq_true (Int.natCast_nonneg j)
      have e3 : ∀ z, x6.getD (Int.toNat (j : Int)) z = x6[j] := fun z => by rw [Int.toNat_natCast]; exact (List.getElem_eq_getD z).symm
      have e3' : ∀ z, x6.getD (0 + Int.toNat (j : Int)) z = x6[j] := fun z => by rw [Nat.zero_add]; exact e3 z
      have e4 : IntKind.i64.wrap ((j : Int) + 1) = (j : Int) + 1 := wrap_next hlt hl
      have ih : ∀ (x9 : (List Int)), L1.f N x6 (x6.length : Int) n ((j : Int) + 1) x9 k0 k1 = L1.l N x6 k0 k1 (x6.drop (j + 1)) ((j : Int) + 1) x9 := fun x9 => L1.rng x6 hl k0 k1 n (j + 1) x9 (by omega) (by omega)
      rw [List.drop_eq_getElem_cons hlt]
      first
        | (simp only [L1.f, L1.st, L1.l, e1, e2, e3, e3', e4, Bool.true_and, Bool.and_true, Bool.and_self, cond_true, ih]; done)
        | (simp only [L1.f, L1.st, L1.l, e1, e2, e3, e3', e4, Bool.true_and, Bool.and_true, Bool.and_self, cond_true, ih]; rfl)
    · have e1 : decide ((j : Int) < (x6.length : Int)) = false := decide_eq_false (fun hc => hlt (Int.ofNat_lt.1 hc))
      rw [List.drop_eq_nil_of_le (by omega)]
      simp only [L1.f, L1.st, L1.l, e1, cond_false]
end semiflow_Sum
theorem semiflow_Sum.L0.law {α : Type} {N : Nat} (F : List (List Int)) (v : List Int) (vs : List (List Int)) (hF : F = v :: vs) (xs : List (List Int)) (k0 : Int → List Int → Option α) (k1 : Option α) : ∀ (l : List (List Int)) (j : Int),
    semiflow_Sum.L0.l N F xs k0 k1 l j = cond (l.all fun u => Nat.beq u.length v.length) k1 (k0 2 [])
  | [], j => rfl
  | x :: l, j => by
    rw [semiflow_Sum.L0.l, semiflow_Sum.L0.law F v vs hF xs k0 k1 l]
    have e1 : F.getD (Int.toNat 0) [] = v := by rw [hF]; rfl
    have e2 : decide (0 < (F.length : Int)) = true := by rw [hF]; exact decide_eq_true (by simp only [List.length_cons]; omega)
    rw [e1, e2, bne_len, List.all_cons]
    cases Nat.beq x.length v.length <;> rfl
theorem vecOp_len {op : Int → Int → Int} : ∀ {a b r : List Int}, vecOp op a b = some r → r.length = min a.length b.length
  | [], b, r, h => by
    have : r = [] := by cases b <;> (simp only [vecOp, Option.some.injEq] at h; exact h.symm)
    simp [this]
  | x :: a, [], r, h => by
    simp only [vecOp, Option.some.injEq] at h
    simp [← h]
  | x :: a, y :: b, r, h => by
    simp only [vecOp] at h
    cases hi : inI64 (op x y)
    · rw [hi] at h; cases h
    · rw [hi] at h
      simp only [cond_true] at h
      cases hr : vecOp op a b with
      | none => rw [hr] at h; cases h
      | some q =>
        rw [hr] at h
        cases h
        simp [vecOp_len hr]
theorem semiflow_Sum.L1.law {α : Type} {N : Nat} (F : List (List Int)) (n : Nat) (hn : n ≤ 1073741824) (k0 : Int → List Int → Option α) (k1 : List Int → Option α) : ∀ (l : List (List Int)) (j : Int) (acc : List Int), acc.length = n → (l.all fun u => Nat.beq u.length n) = true →
    semiflow_Sum.L1.l N F (fun x y _ => k0 x y) k1 l j acc = cond ((sumVs acc l).2 == 0) (k1 (sumVs acc l).1) (k0 3 [])
  | [], j, acc, _, _ => rfl
  | x :: l, j, acc, ha, hl => by
    rw [List.all_cons, Bool.and_eq_true] at hl
    have hx := Nat.eq_of_beq_eq_true hl.1
    have hpre : vector_Add.pre acc x = true := decide_eq_true (by omega)
    rw [semiflow_Sum.L1.l, hpre, cond_true]
    unfold vector_Add.spec vecRes
    rw [beq_t (ha.trans hx.symm), cond_true]
    simp only [sumVs]
    cases hr : vecOp (· + ·) acc x with
    | none => rfl
    | some r =>
      exact semiflow_Sum.L1.law F n hn k0 k1 l (j + 1) r (by rw [vecOp_len hr]; omega) hl.2
theorem sumVs_two : ∀ (l : List (List Int)) (acc : List Int), ((sumVs acc l).2 = 0 ∨ sumVs acc l = ([], 3))
  | [], acc => .inl rfl
  | x :: l, acc => by
    simp only [sumVs]
    cases hr : vecOp (· + ·) acc x with
    | none => exact .inr rfl
    | some r => exact sumVs_two l r
theorem semiflow_Sum.law {α : Type} {N : Nat} (hN : 18446744073709551616 ≤ N) (a0 : List (List Int)) (w0 : K.wf (.sl (.sl (.int .i64))) a0) (hp : semiflow_Sum.pre a0 = true) (kr : ((List Int) → Int → Option α)) : semiflow_Sum.g N a0 kr = kr (semiflow_Sum.spec a0).1 (semiflow_Sum.spec a0).2 := by
  unfold semiflow_Sum.g semiflow_Sum.spec sumS
  cases a0 with
  | nil => rfl
  | cons v vs =>
    have e0 : (((v :: vs).length : Int) == 0) = false := by simp; omega
    have e2 : decide (0 < ((v :: vs).length : Int)) = true := decide_eq_true (by simp only [List.length_cons]; omega)
    have hv : v.length ≤ 1073741824 := by
      simp only [semiflow_Sum.pre, List.all_cons, Bool.and_eq_true, decide_eq_true_eq] at hp
      exact hp.1
    have e3 : decide ((v.length : Int) ≤ 1073741824) = true := decide_eq_true (by omega)
    simp only [e0, cond_false]
    refine (semiflow_Sum.L0.rng (N := N) (v :: vs) (v :: vs) w0.1 _ _ N 0 (by have := le_fuel w0.1 hN; omega) (Nat.zero_le _)).trans ?_
    rw [semiflow_Sum.L0.law (v :: vs) v vs rfl, List.drop_zero, List.all_cons, beq_t rfl, Bool.true_and]
    cases ha : vs.all fun u => Nat.beq u.length v.length
    · rfl
    · simp only [cond_true, e2, e3, List.getD_cons_zero, Int.toNat_zero, d_0, Int.le_refl, decide_true, Bool.and_self, Int.toNat_natCast]
      refine (semiflow_Sum.L1.rng (N := N) (v :: vs) w0.1 _ _ N 0 _ (by have := le_fuel w0.1 hN; omega) (Nat.zero_le _)).trans ?_
      rw [List.drop_zero]
      refine (semiflow_Sum.L1.law (N := N) (v :: vs) v.length hv (fun x y => kr y x) (fun x => kr x 0) (v :: vs) 0 (List.replicate v.length 0) (by simp) (by rw [List.all_cons, beq_t rfl, ha, Bool.and_self])).trans ?_
      rcases sumVs_two (v :: vs) (List.replicate v.length 0) with h | h
      · have e5 : ((sumVs (List.replicate v.length 0) (v :: vs)).2 == 0) = true := by rw [h]; rfl
        rw [e5, cond_true, h]
      · rw [h]
        rfl

theorem semiflow_Sum.ok : FentOk P 21 semiflow_Sum.fent := fentOk_of (by kernel_rfl) fun ds hk => by
  obtain ⟨a0, l0, rfl, h0⟩ := ds_cons hk
  obtain rfl := ds0 h0
  exact ⟨semiflow_Sum.pre a0, [.own (.int .i64) (semiflow_Sum.spec a0).1, .dat (.int .i64) (semiflow_Sum.spec a0).2], fun h hw => semiflow_Sum.calls 18446744073709551616 a0 (semiflow_Sum.law (Nat.le_refl _) a0 hw.1 h _), fun α k => rfl⟩
end Go.VI
set_option linter.unusedVariables false
set_option linter.unusedSimpArgs false
set_option maxRecDepth 100000
set_option maxHeartbeats 4000000
noncomputable section
namespace Go.VI
open Go Go.Proofs
namespace petrinetref01_Narrow
noncomputable def an79 : Ann := []
noncomputable def ents79 {α : Type} (N : Nat) : List (SmE α) := []
noncomputable def C (N : Nat) : Ctx := ⟨tys, [], [], N⟩
theorem ents79_ok {α : Type} (N : Nat) : AllP (EntOk (C N) Try.f79 an79 (ents79 (α := α) N)) (ents79 N) := trivial
noncomputable def g {α : Type} (N : Nat) (a0 : Bool × Int × Int) (kr : (Int → Bool → Option α)) : Option α :=
  cond (decide (0 < a0.snd.fst)) (kr (0) (false)) (cond (decide (9223372036854775808 < a0.snd.snd)) (kr (0) (false)) (cond (a0.snd.snd == 9223372036854775808) (cond (!a0.fst) (kr (0) (false)) (cond (a0.snd.snd == 9223372036854775808) (kr (-9223372036854775808) (true)) (cond (a0.fst) (kr (IntKind.i64.wrap (0 - IntKind.i64.wrap a0.snd.snd)) (true)) (kr (IntKind.i64.wrap a0.snd.snd) (true))))) (cond (a0.snd.snd == 9223372036854775808) (kr (-9223372036854775808) (true)) (cond (a0.fst) (kr (IntKind.i64.wrap (0 - IntKind.i64.wrap a0.snd.snd)) (true)) (kr (IntKind.i64.wrap a0.snd.snd) (true))))))
theorem eq (N : Nat) (a0 : Bool × Int × Int) : evF (C N) 50 Try.f79 an79 (smL (ents79 N) 0 50) [((.int .i64 : K), false), ((.bool : K), false)] [⟨.st (.pr (.bool) (.pr (.int .u64) (.int .u64))), a0⟩] = g N a0 (fun r0 r1 => some [.dat (K.int IntKind.i64) r0, .dat (K.bool) r1]) := by kernel_rfl
theorem ctxOk (N : Nat) : CtxOk P (C N) := ctxOk_of tysOk mixedOk trivial trivial
theorem calls (N : Nat) (a0 : Bool × Int × Int) {rs : List Rs} (h : g N a0 (fun r0 r1 => some [.dat (K.int IntKind.i64) r0, .dat (K.bool) r1]) = some rs) : CallsTo P 79 [⟨.st (.pr (.bool) (.pr (.int .u64) (.int .u64))), a0⟩] rs := evF_calls' (ctxOk N) (by rfl) (ents79_ok N) ((eq N a0).trans h)
end petrinetref01_Narrow
theorem chkT {x : Int} (h : -9223372036854775808 ≤ x ∧ x ≤ 9223372036854775807) : chk x = (x, true) := by
  have : inI64 x = true := by simp [inI64, h.1, h.2]
  unfold chk
  rw [this]
  rfl
theorem chkF {x : Int} (h : ¬ (-9223372036854775808 ≤ x ∧ x ≤ 9223372036854775807)) : chk x = (0, false) := by
  have : inI64 x = false := by
    cases hb : inI64 x
    · rfl
    · simp [inI64] at hb; exact absurd hb h
  unfold chk
  rw [this]
  rfl
theorem petrinetref01_Narrow.law {α : Type} {N : Nat} (hN : 18446744073709551616 ≤ N) (a0 : Bool × Int × Int) (w0 : K.wf (.st (.pr (.bool) (.pr (.int .u64) (.int .u64)))) a0) (kr : (Int → Bool → Option α)) : petrinetref01_Narrow.g N a0 kr = kr (petrinetref01_Narrow.spec a0).1 (petrinetref01_Narrow.spec a0).2 := by
  obtain ⟨neg, hi, lo⟩ := a0
  obtain ⟨_, h1, h2⟩ := w0
  have h1 : 0 ≤ hi := (inI_u64.1 h1).1
  have h3 : 0 ≤ lo := (inI_u64.1 h2).1
  have h4 : lo ≤ 18446744073709551615 := (inI_u64.1 h2).2
  unfold petrinetref01_Narrow.g petrinetref01_Narrow.spec
  simp only
  by_cases hh : 0 < hi
  · have : chk (cond neg (-(hi * 18446744073709551616 + lo)) (hi * 18446744073709551616 + lo)) = (0, false) := by
      cases neg
      · exact chkF (by simp only [cond_false]; omega)
      · exact chkF (by simp only [cond_true]; omega)
    simp only [decide_eq_true hh, cond_true, this]
  · obtain rfl : hi = 0 := by omega
    simp only [Int.zero_mul, Int.zero_add, decide_eq_false hh, cond_false]
    by_cases hl : 9223372036854775808 < lo
    · have : chk (cond neg (-lo) lo) = (0, false) := by
        cases neg
        · exact chkF (by simp only [cond_false]; omega)
        · exact chkF (by simp only [cond_true]; omega)
      simp only [decide_eq_true hl, cond_true, this]
    · simp only [decide_eq_false hl, cond_false]
      by_cases he : lo = 9223372036854775808
      · subst he
        cases neg
        · rfl
        · rfl
      · have e1 : (lo == 9223372036854775808) = false := by simp [he]
        have e2 : IntKind.i64.wrap lo = lo := wrap_i64 (inI_i64.2 (by omega))
        have e3 : IntKind.i64.wrap (0 - lo) = -lo := by rw [wrap_i64 (inI_i64.2 (by omega))]; omega
        cases neg
        · simp only [e1, e2, cond_false]
          rw [chkT (by omega)]
        · simp only [e1, e2, e3, cond_false, cond_true]
          rw [chkT (by omega)]

theorem petrinetref01_Narrow.ok : FentOk P 79 petrinetref01_Narrow.fent := fentOk_of (by kernel_rfl) fun ds hk => by
  obtain ⟨a0, l0, rfl, h0⟩ := ds_cons hk
  obtain rfl := ds0 h0
  exact ⟨true, [.dat (.int .i64) (petrinetref01_Narrow.spec a0).1, .dat (.bool) (petrinetref01_Narrow.spec a0).2], fun h hw => petrinetref01_Narrow.calls 18446744073709551616 a0 (petrinetref01_Narrow.law (Nat.le_refl _) a0 hw.1 _), fun α k => rfl⟩
end Go.VI
set_option linter.unusedVariables false
set_option linter.unusedSimpArgs false
set_option maxRecDepth 100000
set_option maxHeartbeats 4000000
noncomputable section
namespace Go.VI
open Go Go.Proofs
namespace petrinetref01_Abs
noncomputable def an100 : Ann := []
noncomputable def ents100 {α : Type} (N : Nat) : List (SmE α) := []
noncomputable def C (N : Nat) : Ctx := ⟨tys, [], [], N⟩
theorem ents100_ok {α : Type} (N : Nat) : AllP (EntOk (C N) Try.f100 an100 (ents100 (α := α) N)) (ents100 N) := trivial
noncomputable def g {α : Type} (N : Nat) (a0 : Int) (kr : (Int → Option α)) : Option α :=
  cond (decide (a0 < 0)) (kr (IntKind.u64.wrap (IntKind.u64.wrap (IntKind.i64.wrap (0 - IntKind.i64.wrap (a0 + 1))) + 1))) (kr (IntKind.u64.wrap a0))
theorem eq (N : Nat) (a0 : Int) : evF (C N) 50 Try.f100 an100 (smL (ents100 N) 0 50) [((.int .u64 : K), false)] [⟨.int .i64, a0⟩] = g N a0 (fun r0 => some [.dat (K.int IntKind.u64) r0]) := by kernel_rfl
theorem ctxOk (N : Nat) : CtxOk P (C N) := ctxOk_of tysOk mixedOk trivial trivial
theorem calls (N : Nat) (a0 : Int) {rs : List Rs} (h : g N a0 (fun r0 => some [.dat (K.int IntKind.u64) r0]) = some rs) : CallsTo P 100 [⟨.int .i64, a0⟩] rs := evF_calls' (ctxOk N) (by rfl) (ents100_ok N) ((eq N a0).trans h)
end petrinetref01_Abs
theorem petrinetref01_Abs.law {α : Type} {N : Nat} (hN : 18446744073709551616 ≤ N) (a0 : Int) (w0 : K.wf (.int .i64) a0) (kr : (Int → Option α)) : petrinetref01_Abs.g N a0 kr = kr (petrinetref01_Abs.spec a0) := by
  obtain ⟨h1, h2⟩ := inI_i64.1 w0
  unfold petrinetref01_Abs.g petrinetref01_Abs.spec
  by_cases h : a0 < 0
  · have e1 : IntKind.i64.wrap (a0 + 1) = a0 + 1 := wrap_i64 (inI_i64.2 (by omega))
    have e2 : IntKind.i64.wrap (0 - (a0 + 1)) = 0 - (a0 + 1) := wrap_i64 (inI_i64.2 (by omega))
    have e3 : IntKind.u64.wrap (0 - (a0 + 1)) = 0 - (a0 + 1) := wrap_u64 (by omega)
    have e4 : IntKind.u64.wrap (0 - (a0 + 1) + 1) = -a0 := by rw [wrap_u64 (by omega)]; omega
    simp only [decide_eq_true h, cond_true, e1, e2, e3, e4]
  · have e4 : IntKind.u64.wrap a0 = a0 := wrap_u64 (by omega)
    simp only [decide_eq_false h, cond_false, e4]

theorem petrinetref01_Abs.ok : FentOk P 100 petrinetref01_Abs.fent := fentOk_of (by kernel_rfl) fun ds hk => by
  obtain ⟨a0, l0, rfl, h0⟩ := ds_cons hk
  obtain rfl := ds0 h0
  exact ⟨true, [.dat (.int .u64) (petrinetref01_Abs.spec a0)], fun h hw => petrinetref01_Abs.calls 18446744073709551616 a0 (petrinetref01_Abs.law (Nat.le_refl _) a0 hw.1 _), fun α k => rfl⟩
end Go.VI
set_option linter.unusedVariables false
set_option linter.unusedSimpArgs false
set_option maxRecDepth 100000
set_option maxHeartbeats 4000000
noncomputable section
namespace Go.VI
open Go Go.Proofs
namespace petrinetref01_Plus
noncomputable def an80 : Ann := []
noncomputable def ents80 {α : Type} (N : Nat) : List (SmE α) := []
noncomputable def C (N : Nat) : Ctx := ⟨tys, [(100, petrinetref01_Abs.fent)], [], N⟩
theorem ents80_ok {α : Type} (N : Nat) : AllP (EntOk (C N) Try.f80 an80 (ents80 (α := α) N)) (ents80 N) := trivial
noncomputable def g {α : Type} (N : Nat) (a0 : Int) (a1 : Int) (kr : ((Bool × Int × Int) → Option α)) : Option α :=
  cond (decide (a0 < 0) == decide (a1 < 0)) (cond (decide (IntKind.u64.wrap (petrinetref01_Abs.spec a0 + petrinetref01_Abs.spec a1) < petrinetref01_Abs.spec a0)) (kr ((decide (a0 < 0), 1, IntKind.u64.wrap (petrinetref01_Abs.spec a0 + petrinetref01_Abs.spec a1)))) (kr ((decide (a0 < 0), 0, IntKind.u64.wrap (petrinetref01_Abs.spec a0 + petrinetref01_Abs.spec a1))))) (cond (decide (petrinetref01_Abs.spec a0 < petrinetref01_Abs.spec a1)) (kr ((decide (a1 < 0), 0, IntKind.u64.wrap (petrinetref01_Abs.spec a1 - petrinetref01_Abs.spec a0)))) (cond (decide (a0 < 0)) (kr ((decide (petrinetref01_Abs.spec a1 < petrinetref01_Abs.spec a0), 0, IntKind.u64.wrap (petrinetref01_Abs.spec a0 - petrinetref01_Abs.spec a1)))) (kr ((false, 0, IntKind.u64.wrap (petrinetref01_Abs.spec a0 - petrinetref01_Abs.spec a1))))))
theorem eq (N : Nat) (a0 : Int) (a1 : Int) : evF (C N) 50 Try.f80 an80 (smL (ents80 N) 0 50) [((.st (.pr (.bool) (.pr (.int .u64) (.int .u64))) : K), false)] [⟨.int .i64, a0⟩, ⟨.int .i64, a1⟩] = g N a0 a1 (fun r0 => some [.dat ((K.bool.pr ((K.int IntKind.u64).pr (K.int IntKind.u64))).st) r0]) := by kernel_rfl
theorem ctxOk (N : Nat) : CtxOk P (C N) := ctxOk_of tysOk mixedOk ⟨petrinetref01_Abs.ok, trivial⟩ trivial
theorem calls (N : Nat) (a0 : Int) (a1 : Int) {rs : List Rs} (h : g N a0 a1 (fun r0 => some [.dat ((K.bool.pr ((K.int IntKind.u64).pr (K.int IntKind.u64))).st) r0]) = some rs) : CallsTo P 80 [⟨.int .i64, a0⟩, ⟨.int .i64, a1⟩] rs := evF_calls' (ctxOk N) (by rfl) (ents80_ok N) ((eq N a0 a1).trans h)
end petrinetref01_Plus
theorem abs_neg {a : Int} (h : a < 0) : petrinetref01_Abs.spec a = -a := by unfold petrinetref01_Abs.spec; rw [decide_eq_true h]; rfl
theorem abs_pos {a : Int} (h : ¬ a < 0) : petrinetref01_Abs.spec a = a := by unfold petrinetref01_Abs.spec; rw [decide_eq_false h]; rfl
theorem petrinetref01_Plus.law {α : Type} {N : Nat} (hN : 18446744073709551616 ≤ N) (a0 : Int) (a1 : Int) (w0 : K.wf (.int .i64) a0) (w1 : K.wf (.int .i64) a1) (kr : ((Bool × Int × Int) → Option α)) : petrinetref01_Plus.g N a0 a1 kr = kr (petrinetref01_Plus.spec a0 a1) := by
  obtain ⟨h1, h2⟩ := inI_i64.1 w0
  obtain ⟨h3, h4⟩ := inI_i64.1 w1
  unfold petrinetref01_Plus.g petrinetref01_Plus.spec
  by_cases ha : a0 < 0 <;> by_cases hb : a1 < 0
  · simp only [abs_neg ha, abs_neg hb, decide_eq_true ha, decide_eq_true hb, beq_self_eq_true, cond_true]
    have e0 : decide (a0 + a1 < 0) = true := decide_eq_true (by omega)
    by_cases hm : a0 + a1 = -18446744073709551616
    · have e1 : IntKind.u64.wrap (-a0 + -a1) = 0 := by
        rw [show -a0 + -a1 = 18446744073709551616 by omega]
        rfl
      have e2 : decide ((0 : Int) < -a0) = true := decide_eq_true (by omega)
      simp only [e0, e1, e2, decide_eq_true hm, cond_true]
    · have e1 : IntKind.u64.wrap (-a0 + -a1) = -(a0 + a1) := by rw [wrap_u64 (by omega)]; omega
      have e2 : decide (-(a0 + a1) < -a0) = false := decide_eq_false (by omega)
      simp only [e0, e1, e2, decide_eq_false hm, cond_true, cond_false]
  · have hm : decide (a0 + a1 = -18446744073709551616) = false := decide_eq_false (by omega)
    have eb : (true == false) = false := rfl
    simp only [abs_neg ha, abs_pos hb, decide_eq_true ha, decide_eq_false hb, eb, cond_false, hm, cond_true]
    by_cases hl : -a0 < a1
    · have e1 : IntKind.u64.wrap (a1 - -a0) = a0 + a1 := by rw [wrap_u64 (by omega)]; omega
      have e0 : decide (a0 + a1 < 0) = false := decide_eq_false (by omega)
      simp only [decide_eq_true hl, cond_true, e0, e1, cond_false]
    · by_cases hq : a0 + a1 < 0
      · have e1 : IntKind.u64.wrap (-a0 - a1) = -(a0 + a1) := by rw [wrap_u64 (by omega)]; omega
        have e2 : decide (a1 < -a0) = true := decide_eq_true (by omega)
        simp only [decide_eq_false hl, cond_false, decide_eq_true hq, e1, e2, cond_true]
      · have e1 : IntKind.u64.wrap (-a0 - a1) = a0 + a1 := by rw [wrap_u64 (by omega)]; omega
        have e2 : decide (a1 < -a0) = false := decide_eq_false (by omega)
        simp only [decide_eq_false hl, cond_false, decide_eq_false hq, e1, e2]
  · have hm : decide (a0 + a1 = -18446744073709551616) = false := decide_eq_false (by omega)
    have eb : (false == true) = false := rfl
    simp only [abs_pos ha, abs_neg hb, decide_eq_false ha, decide_eq_true hb, eb, cond_false, hm]
    by_cases hl : a0 < -a1
    · have e1 : IntKind.u64.wrap (-a1 - a0) = -(a0 + a1) := by rw [wrap_u64 (by omega)]; omega
      have e0 : decide (a0 + a1 < 0) = true := decide_eq_true (by omega)
      simp only [decide_eq_true hl, cond_true, e0, e1]
    · have e1 : IntKind.u64.wrap (a0 - -a1) = a0 + a1 := by rw [wrap_u64 (by omega)]; omega
      have e0 : decide (a0 + a1 < 0) = false := decide_eq_false (by omega)
      simp only [decide_eq_false hl, cond_false, e0, e1]
  · have hm : decide (a0 + a1 = -18446744073709551616) = false := decide_eq_false (by omega)
    have e0 : decide (a0 + a1 < 0) = false := decide_eq_false (by omega)
    have e1 : IntKind.u64.wrap (a0 + a1) = a0 + a1 := wrap_u64 (by omega)
    have e2 : decide (a0 + a1 < a0) = false := decide_eq_false (by omega)
    simp only [abs_pos ha, abs_pos hb, decide_eq_false ha, decide_eq_false hb, beq_self_eq_true, cond_true, hm, e0, e1, e2, cond_false]

theorem petrinetref01_Plus.ok : FentOk P 80 petrinetref01_Plus.fent := fentOk_of (by kernel_rfl) fun ds hk => by
  obtain ⟨a0, l0, rfl, h0⟩ := ds_cons hk
  obtain ⟨a1, l1, rfl, h1⟩ := ds_cons h0
  obtain rfl := ds0 h1
  exact ⟨true, [.dat (.st (.pr (.bool) (.pr (.int .u64) (.int .u64)))) (petrinetref01_Plus.spec a0 a1)], fun h hw => petrinetref01_Plus.calls 18446744073709551616 a0 a1 (petrinetref01_Plus.law (Nat.le_refl _) a0 a1 hw.1 hw.2.1 _), fun α k => rfl⟩
end Go.VI
set_option linter.unusedVariables false
set_option linter.unusedSimpArgs false
set_option maxRecDepth 100000
set_option maxHeartbeats 4000000
noncomputable section
namespace Go.VI
open Go Go.Proofs
namespace petrinetref01_Add
noncomputable def an52 : Ann := []
noncomputable def ents52 {α : Type} (N : Nat) : List (SmE α) := []
noncomputable def C (N : Nat) : Ctx := ⟨tys, [(79, petrinetref01_Narrow.fent), (80, petrinetref01_Plus.fent)], [], N⟩
theorem ents52_ok {α : Type} (N : Nat) : AllP (EntOk (C N) Try.f52 an52 (ents52 (α := α) N)) (ents52 N) := trivial
noncomputable def g {α : Type} (N : Nat) (a0 : Int) (a1 : Int) (kr : (Int → Bool → Option α)) : Option α :=
  kr ((petrinetref01_Narrow.spec ((petrinetref01_Plus.spec a0 a1).fst, (petrinetref01_Plus.spec a0 a1).snd.fst, (petrinetref01_Plus.spec a0 a1).snd.snd)).fst) ((petrinetref01_Narrow.spec ((petrinetref01_Plus.spec a0 a1).fst, (petrinetref01_Plus.spec a0 a1).snd.fst, (petrinetref01_Plus.spec a0 a1).snd.snd)).snd)
theorem eq (N : Nat) (a0 : Int) (a1 : Int) : evF (C N) 50 Try.f52 an52 (smL (ents52 N) 0 50) [((.int .i64 : K), false), ((.bool : K), false)] [⟨.int .i64, a0⟩, ⟨.int .i64, a1⟩] = g N a0 a1 (fun r0 r1 => some [.dat (K.int IntKind.i64) r0, .dat (K.bool) r1]) := by kernel_rfl
theorem ctxOk (N : Nat) : CtxOk P (C N) := ctxOk_of tysOk mixedOk ⟨petrinetref01_Narrow.ok, petrinetref01_Plus.ok, trivial⟩ trivial
theorem calls (N : Nat) (a0 : Int) (a1 : Int) {rs : List Rs} (h : g N a0 a1 (fun r0 r1 => some [.dat (K.int IntKind.i64) r0, .dat (K.bool) r1]) = some rs) : CallsTo P 52 [⟨.int .i64, a0⟩, ⟨.int .i64, a1⟩] rs := evF_calls' (ctxOk N) (by rfl) (ents52_ok N) ((eq N a0 a1).trans h)
end petrinetref01_Add
theorem petrinetref01_Add.law {α : Type} {N : Nat} (hN : 18446744073709551616 ≤ N) (a0 : Int) (a1 : Int) (w0 : K.wf (.int .i64) a0) (w1 : K.wf (.int .i64) a1) (kr : (Int → Bool → Option α)) : petrinetref01_Add.g N a0 a1 kr = kr (petrinetref01_Add.spec a0 a1).1 (petrinetref01_Add.spec a0 a1).2 := by
  obtain ⟨h1, h2⟩ := inI_i64.1 w0
  obtain ⟨h3, h4⟩ := inI_i64.1 w1
  have : petrinetref01_Narrow.spec (petrinetref01_Plus.spec a0 a1) = chk (a0 + a1) := by
    unfold petrinetref01_Narrow.spec petrinetref01_Plus.spec
    simp only
    by_cases hm : a0 + a1 = -18446744073709551616
    · simp only [hm, decide_true, cond_true]
      rfl
    · simp only [hm, decide_false, cond_false, Int.zero_mul, Int.zero_add]
      by_cases hn : a0 + a1 < 0
      · simp only [decide_eq_true hn, cond_true, Int.neg_neg]
      · simp only [decide_eq_false hn, cond_false]
  unfold petrinetref01_Add.g petrinetref01_Add.spec
  rw [← this]

theorem petrinetref01_Add.ok : FentOk P 52 petrinetref01_Add.fent := fentOk_of (by kernel_rfl) fun ds hk => by
  obtain ⟨a0, l0, rfl, h0⟩ := ds_cons hk
  obtain ⟨a1, l1, rfl, h1⟩ := ds_cons h0
  obtain rfl := ds0 h1
  exact ⟨true, [.dat (.int .i64) (petrinetref01_Add.spec a0 a1).1, .dat (.bool) (petrinetref01_Add.spec a0 a1).2], fun h hw => petrinetref01_Add.calls 18446744073709551616 a0 a1 (petrinetref01_Add.law (Nat.le_refl _) a0 a1 hw.1 hw.2.1 _), fun α k => rfl⟩
end Go.VI
set_option linter.unusedVariables false
set_option linter.unusedSimpArgs false
set_option maxRecDepth 100000
set_option maxHeartbeats 4000000
noncomputable section
namespace Go.VI
open Go Go.Proofs
namespace petrinetref31_Sum
noncomputable def an22 : Ann := [(4, [0, 4], [0, 2, 3]), (10, [0, 5, 6], [2, 3, 5]), (14, [0, 5, 6, 7, 8], [0, 2, 3, 5, 6, 7])]
noncomputable def L0.sh : Sh := { sl := [(0, SV.a (SA.d (K.int IntKind.i64).sl.sl)), (4, SV.a (SA.d (K.int IntKind.i64)))], os := [], nx := 0 }
noncomputable def L0.x0 : Sh := { sl := [(0, SV.a (SA.d (K.int IntKind.i64).sl.sl)), (2, SV.a (SA.fx (Atom.sl 0 0 none))), (3, SV.a (SA.d (K.int IntKind.i64)))], os := [(0, SO.row (K.int IntKind.i64) 0)], nx := 1 }
noncomputable def L0.x1 : Sh := { sl := [(0, SV.a (SA.d (K.int IntKind.i64).sl.sl)), (2, SV.j), (3, SV.j)], os := [], nx := 0 }
noncomputable def L0.st {α : Type} (N : Nat) (x0 : (List (List Int))) (φ : (Int → Option α)) (x1 : Int) (k0 : (Int → (List Int) → Option α)) (k1 : Option α) : Option α :=
  cond (decide (x1 < (↑x0.length : Int))) (cond (decide (0 ≤ x1) && decide (x1 < (↑x0.length : Int))) (cond (decide (0 ≤ 0) && decide (0 < (↑x0.length : Int))) (cond ((↑(List.length (x0.getD x1.toNat [])) : Int) != (↑(List.length (x0.getD (Int.toNat 0) [])) : Int)) (k0 (2) ([])) (φ (IntKind.i64.wrap (x1 + 1)))) (none)) (none)) (k1 )
noncomputable def L0.f {α : Type} (N : Nat) (c0 : (List (List Int))) : Nat → Int → (Int → (List Int) → Option α) → Option α → Option α
  | 0, _, _, _ => none
  | n + 1, d0, k0, k1 => L0.st N c0 (fun e0 => L0.f N c0 n e0 k0 k1) d0 k0 k1
noncomputable def L0.F {α : Type} (N : Nat) (d : L0.sh.T) (K : Cont α) : Option α := L0.f N d.1.1 N d.1.2.1 (fun y0 y1 => K (Exit.ret) (L0.x0.enc ((d.1.1, ((), (y0, ()))), (y1, ())))) (K (Exit.exit 0) (L0.x1.enc ((d.1.1, ((), ((), ()))), ())))
noncomputable def L1.sh : Sh := { sl := [(0, SV.a (SA.d (K.int IntKind.i64).sl.sl)), (5, SV.a (SA.fx (Atom.sl 0 0 none))), (6, SV.a (SA.d (K.int IntKind.i64))), (7, SV.a (SA.d (K.int IntKind.i64))), (8, SV.a (SA.d (K.int IntKind.i64)))], os := [(0, SO.row (K.int IntKind.i64) 0)], nx := 1 }
noncomputable def L1.x0 : Sh := { sl := [(0, SV.a (SA.d (K.int IntKind.i64).sl.sl)), (2, SV.a (SA.fx (Atom.sl 0 0 none))), (3, SV.a (SA.d (K.int IntKind.i64))), (5, SV.a (SA.fx (Atom.sl 1 0 none))), (6, SV.a (SA.d (K.int IntKind.i64))), (7, SV.a (SA.d (K.int IntKind.i64)))], os := [(0, SO.row (K.int IntKind.i64) 0), (1, SO.row (K.int IntKind.i64) 0)], nx := 2 }
noncomputable def L1.x1 : Sh := { sl := [(0, SV.a (SA.d (K.int IntKind.i64).sl.sl)), (2, SV.j), (3, SV.j), (5, SV.a (SA.fx (Atom.sl 0 0 none))), (6, SV.a (SA.d (K.int IntKind.i64))), (7, SV.a (SA.d (K.int IntKind.i64)))], os := [(0, SO.row (K.int IntKind.i64) 0)], nx := 1 }
noncomputable def L1.st {α : Type} (N : Nat) (x7 : (List (List Int))) (x8 : Int) (x11 : (List Int)) (φ : (Int → Int → Option α)) (x9 : Int) (x10 : Int) (k0 : (Int → Int → (List Int) → Option α)) (k1 : (Int → Option α)) : Option α :=
  cond (decide (x10 < (↑x7.length : Int))) (cond (decide (0 ≤ x10) && decide (x10 < (↑x7.length : Int))) (cond (decide (0 ≤ x8) && decide (x8 < (↑(List.length (x7.getD x10.toNat [])) : Int))) (cond (!(petrinetref01_Add.spec x9 (List.getD (x7.getD x10.toNat []) x8.toNat 0)).snd) (k0 (3) (x9) ([])) (φ ((petrinetref01_Add.spec x9 (List.getD (x7.getD x10.toNat []) x8.toNat 0)).fst) (IntKind.i64.wrap (x10 + 1)))) (none)) (none)) (k1 (x9))
noncomputable def L1.f {α : Type} (N : Nat) (c0 : (List (List Int))) (c1 : Int) (c2 : (List Int)) : Nat → Int → Int → (Int → Int → (List Int) → Option α) → (Int → Option α) → Option α
  | 0, _, _, _, _ => none
  | n + 1, d0, d1, k0, k1 => L1.st N c0 c1 c2 (fun e0 e1 => L1.f N c0 c1 c2 n e0 e1 k0 k1) d0 d1 k0 k1
noncomputable def L1.F {α : Type} (N : Nat) (d : L1.sh.T) (K : Cont α) : Option α := L1.f N d.1.1 d.1.2.2.1 d.2.1 N d.1.2.2.2.1 d.1.2.2.2.2.1 (fun y0 y1 y2 => K (Exit.ret) (L1.x0.enc ((d.1.1, ((), (y0, ((), (d.1.2.2.1, (y1, ())))))), (y2, (d.2.1, ()))))) (fun y0 => K (Exit.exit 4) (L1.x1.enc ((d.1.1, ((), ((), ((), (d.1.2.2.1, (y0, ())))))), (d.2.1, ()))))
noncomputable def L2.sh : Sh := { sl := [(0, SV.a (SA.d (K.int IntKind.i64).sl.sl)), (5, SV.a (SA.fx (Atom.sl 0 0 none))), (6, SV.a (SA.d (K.int IntKind.i64)))], os := [(0, SO.row (K.int IntKind.i64) 0)], nx := 1 }
noncomputable def L2.x0 : Sh := { sl := [(2, SV.a (SA.fx (Atom.sl 0 0 none))), (3, SV.a (SA.d (K.int IntKind.i64))), (5, SV.a (SA.fx (Atom.sl 1 0 none)))], os := [(0, SO.row (K.int IntKind.i64) 0), (1, SO.row (K.int IntKind.i64) 0)], nx := 2 }
noncomputable def L2.x1 : Sh := { sl := [(2, SV.j), (3, SV.j), (5, SV.a (SA.fx (Atom.sl 0 0 none)))], os := [(0, SO.row (K.int IntKind.i64) 0)], nx := 1 }
noncomputable def L2.st {α : Type} (N : Nat) (x4 : (List (List Int))) (φ : (Int → (List Int) → Option α)) (x5 : Int) (x6 : (List Int)) (k0 : (Int → (List Int) → (List Int) → Option α)) (k1 : ((List Int) → Option α)) : Option α :=
  cond (decide (0 ≤ 0) && decide (0 < (↑x4.length : Int))) (cond (decide (x5 < (↑(List.length (x4.getD (Int.toNat 0) [])) : Int))) (L1.f N (x4) (x5) (x6) N (0) (0) (fun x12 x13 x14 => k0 (x12) (x14) (x6)) (fun x15 => cond ((x6.length + [x15].length).ble mxl) (φ (IntKind.i64.wrap (x5 + 1)) (x6 ++ [x15])) (none))) (k1 (x6))) (none)
noncomputable def L2.f {α : Type} (N : Nat) (c0 : (List (List Int))) : Nat → Int → (List Int) → (Int → (List Int) → (List Int) → Option α) → ((List Int) → Option α) → Option α
  | 0, _, _, _, _ => none
  | n + 1, d0, d1, k0, k1 => L2.st N c0 (fun e0 e1 => L2.f N c0 n e0 e1 k0 k1) d0 d1 k0 k1
noncomputable def L2.F {α : Type} (N : Nat) (d : L2.sh.T) (K : Cont α) : Option α := L2.f N d.1.1 N d.1.2.2.1 d.2.1 (fun y0 y1 y2 => K (Exit.ret) (L2.x0.enc (((), (y0, ((), ()))), (y1, (y2, ()))))) (fun y0 => K (Exit.exit 2) (L2.x1.enc (((), ((), ((), ()))), (y0, ()))))
noncomputable def ents22 {α : Type} (N : Nat) : List (SmE α) := [⟨0, 50, 4, [⟨L0.sh, L0.F N⟩]⟩, ⟨0, 50, 14, [⟨L1.sh, L1.F N⟩]⟩, ⟨0, 50, 10, [⟨L2.sh, L2.F N⟩]⟩]
noncomputable def C (N : Nat) : Ctx := ⟨tys, [(52, petrinetref01_Add.fent)], [], N⟩
noncomputable def L0.B {α : Type} (N : Nat) : Env → Cont α → Option α := evC tys 64 0 (evCall (C N) 50) (evCallQ (C N)) N an22 (smL (ents22 N) 0 50) (loopOf 4 Try.f22)
theorem L0.r {α : Type} (N : Nat) (c0 : (List (List Int))) (φ : Env → Option α) (K : Cont α) (d0 : Int) : L0.B N (L0.sh.enc ((c0, (d0, ())), ())) (contL φ K (Env.norm 0 [0, 4]) (Env.norm 0 [0, 2, 3])) = L0.st N c0 (fun e0 => φ (L0.sh.enc ((c0, (e0, ())), ()))) d0 (fun y0 y1 => K (Exit.ret) (L0.x0.enc ((c0, ((), (y0, ()))), (y1, ())))) (K (Exit.exit 0) (L0.x1.enc ((c0, ((), ((), ()))), ()))) := by kernel_rfl
theorem L0.e {α : Type} (N : Nat) (c0 : (List (List Int))) : ∀ (n : Nat) (d0 : Int) (K : Cont α), evL (L0.B N) (Env.norm 0 [0, 4]) (Env.norm 0 [0, 2, 3]) n (L0.sh.enc ((c0, (d0, ())), ())) K = L0.f N c0 n d0 (fun y0 y1 => K (Exit.ret) (L0.x0.enc ((c0, ((), (y0, ()))), (y1, ())))) (K (Exit.exit 0) (L0.x1.enc ((c0, ((), ((), ()))), ())))
  | 0, d0, K => rfl
  | n + 1, d0, K => evL_contL.trans ((L0.r N c0 (fun e => evL (L0.B N) (Env.norm 0 [0, 4]) (Env.norm 0 [0, 2, 3]) n e K) K d0).trans (congrArg (fun φ => L0.st N c0 φ d0 (fun y0 y1 => K (Exit.ret) (L0.x0.enc ((c0, ((), (y0, ()))), (y1, ())))) (K (Exit.exit 0) (L0.x1.enc ((c0, ((), ((), ()))), ())))) (funext fun e0 => L0.e N c0 n e0 K)))
noncomputable def L1.B {α : Type} (N : Nat) : Env → Cont α → Option α := evC tys 64 0 (evCall (C N) 50) (evCallQ (C N)) N an22 (smL (ents22 N) 0 50) (loopOf 14 Try.f22)
theorem L1.r {α : Type} (N : Nat) (c0 : (List (List Int))) (c1 : Int) (c2 : (List Int)) (φ : Env → Option α) (K : Cont α) (d0 : Int) (d1 : Int) : L1.B N (L1.sh.enc ((c0, ((), (c1, (d0, (d1, ()))))), (c2, ()))) (contL φ K (Env.norm 0 [0, 5, 6, 7, 8]) (Env.norm 0 [0, 2, 3, 5, 6, 7])) = L1.st N c0 c1 c2 (fun e0 e1 => φ (L1.sh.enc ((c0, ((), (c1, (e0, (e1, ()))))), (c2, ())))) d0 d1 (fun y0 y1 y2 => K (Exit.ret) (L1.x0.enc ((c0, ((), (y0, ((), (c1, (y1, ())))))), (y2, (c2, ()))))) (fun y0 => K (Exit.exit 4) (L1.x1.enc ((c0, ((), ((), ((), (c1, (y0, ())))))), (c2, ())))) := by kernel_rfl
theorem L1.e {α : Type} (N : Nat) (c0 : (List (List Int))) (c1 : Int) (c2 : (List Int)) : ∀ (n : Nat) (d0 : Int) (d1 : Int) (K : Cont α), evL (L1.B N) (Env.norm 0 [0, 5, 6, 7, 8]) (Env.norm 0 [0, 2, 3, 5, 6, 7]) n (L1.sh.enc ((c0, ((), (c1, (d0, (d1, ()))))), (c2, ()))) K = L1.f N c0 c1 c2 n d0 d1 (fun y0 y1 y2 => K (Exit.ret) (L1.x0.enc ((c0, ((), (y0, ((), (c1, (y1, ())))))), (y2, (c2, ()))))) (fun y0 => K (Exit.exit 4) (L1.x1.enc ((c0, ((), ((), ((), (c1, (y0, ())))))), (c2, ()))))
  | 0, d0, d1, K => rfl
  | n + 1, d0, d1, K => evL_contL.trans ((L1.r N c0 c1 c2 (fun e => evL (L1.B N) (Env.norm 0 [0, 5, 6, 7, 8]) (Env.norm 0 [0, 2, 3, 5, 6, 7]) n e K) K d0 d1).trans (congrArg (fun φ => L1.st N c0 c1 c2 φ d0 d1 (fun y0 y1 y2 => K (Exit.ret) (L1.x0.enc ((c0, ((), (y0, ((), (c1, (y1, ())))))), (y2, (c2, ()))))) (fun y0 => K (Exit.exit 4) (L1.x1.enc ((c0, ((), ((), ((), (c1, (y0, ())))))), (c2, ()))))) (funext fun e0 => funext fun e1 => L1.e N c0 c1 c2 n e0 e1 K)))
noncomputable def L2.B {α : Type} (N : Nat) : Env → Cont α → Option α := evC tys 64 0 (evCall (C N) 50) (evCallQ (C N)) N an22 (smL (ents22 N) 0 50) (loopOf 10 Try.f22)
theorem L2.r {α : Type} (N : Nat) (c0 : (List (List Int))) (φ : Env → Option α) (K : Cont α) (d0 : Int) (d1 : (List Int)) : L2.B N (L2.sh.enc ((c0, ((), (d0, ()))), (d1, ()))) (contL φ K (Env.norm 0 [0, 5, 6]) (Env.norm 0 [2, 3, 5])) = L2.st N c0 (fun e0 e1 => φ (L2.sh.enc ((c0, ((), (e0, ()))), (e1, ())))) d0 d1 (fun y0 y1 y2 => K (Exit.ret) (L2.x0.enc (((), (y0, ((), ()))), (y1, (y2, ()))))) (fun y0 => K (Exit.exit 2) (L2.x1.enc (((), ((), ((), ()))), (y0, ())))) := by kernel_rfl
theorem L2.e {α : Type} (N : Nat) (c0 : (List (List Int))) : ∀ (n : Nat) (d0 : Int) (d1 : (List Int)) (K : Cont α), evL (L2.B N) (Env.norm 0 [0, 5, 6]) (Env.norm 0 [2, 3, 5]) n (L2.sh.enc ((c0, ((), (d0, ()))), (d1, ()))) K = L2.f N c0 n d0 d1 (fun y0 y1 y2 => K (Exit.ret) (L2.x0.enc (((), (y0, ((), ()))), (y1, (y2, ()))))) (fun y0 => K (Exit.exit 2) (L2.x1.enc (((), ((), ((), ()))), (y0, ()))))
  | 0, d0, d1, K => rfl
  | n + 1, d0, d1, K => evL_contL.trans ((L2.r N c0 (fun e => evL (L2.B N) (Env.norm 0 [0, 5, 6]) (Env.norm 0 [2, 3, 5]) n e K) K d0 d1).trans (congrArg (fun φ => L2.st N c0 φ d0 d1 (fun y0 y1 y2 => K (Exit.ret) (L2.x0.enc (((), (y0, ((), ()))), (y1, (y2, ()))))) (fun y0 => K (Exit.exit 2) (L2.x1.enc (((), ((), ((), ()))), (y0, ()))))) (funext fun e0 => funext fun e1 => L2.e N c0 n e0 e1 K)))
theorem ents22_ok {α : Type} (N : Nat) : AllP (EntOk (C N) Try.f22 an22 (ents22 (α := α) N)) (ents22 N) := ⟨entOk_of (b0 := loopOf 4 Try.f22) (li0 := [0, 4]) (lx0 := [0, 2, 3]) (by kernel_rfl) (by kernel_rfl) ⟨fun d K => L0.e N d.1.1 N d.1.2.1 K, trivial⟩, entOk_of (b0 := loopOf 14 Try.f22) (li0 := [0, 5, 6, 7, 8]) (lx0 := [0, 2, 3, 5, 6, 7]) (by kernel_rfl) (by kernel_rfl) ⟨fun d K => L1.e N d.1.1 d.1.2.2.1 d.2.1 N d.1.2.2.2.1 d.1.2.2.2.2.1 K, trivial⟩, entOk_of (b0 := loopOf 10 Try.f22) (li0 := [0, 5, 6]) (lx0 := [2, 3, 5]) (by kernel_rfl) (by kernel_rfl) ⟨fun d K => L2.e N d.1.1 N d.1.2.2.1 d.2.1 K, trivial⟩, trivial⟩
noncomputable def g {α : Type} (N : Nat) (a0 : List (List Int)) (kr : ((List Int) → Int → Option α)) : Option α :=
  cond ((↑a0.length : Int) == 0) (kr ([]) (2)) (L0.f N (a0) N (0) (fun x2 x3 => kr (x3) (x2)) (L2.f N (a0) N (0) ([]) (fun x16 x17 x18 => kr (x17) (x16)) (fun x19 => kr (x19) (0))))
theorem eq (N : Nat) (a0 : List (List Int)) : evF (C N) 50 Try.f22 an22 (smL (ents22 N) 0 50) [(((.int .i64) : K), true), ((.int .i64 : K), false)] [⟨.sl (.sl (.int .i64)), a0⟩] = g N a0 (fun r0 r1 => some [.own (K.int IntKind.i64) r0, .dat (K.int IntKind.i64) r1]) := by kernel_rfl
theorem ctxOk (N : Nat) : CtxOk P (C N) := ctxOk_of tysOk mixedOk ⟨petrinetref01_Add.ok, trivial⟩ trivial
theorem calls (N : Nat) (a0 : List (List Int)) {rs : List Rs} (h : g N a0 (fun r0 r1 => some [.own (K.int IntKind.i64) r0, .dat (K.int IntKind.i64) r1]) = some rs) : CallsTo P 22 [⟨.sl (.sl (.int .i64)), a0⟩] rs := evF_calls' (ctxOk N) (by rfl) (ents22_ok N) ((eq N a0).trans h)
noncomputable def L0.l {α : Type} (N : Nat) (x0 : (List (List Int))) (k0 : (Int → (List Int) → Option α)) (k1 : Option α) : List (List Int) → Int → Option α
  | [], x1 => k1 
  | x :: l, x1 => (cond (decide (0 ≤ 0) && decide (0 < (↑x0.length : Int))) (cond ((↑(List.length x) : Int) != (↑(List.length (x0.getD (Int.toNat 0) [])) : Int)) (k0 (2) ([])) (L0.l N x0 k0 k1 l (x1 + 1))) (none))
theorem L0.rng {α : Type} {N : Nat} (x0 : (List (List Int))) (hl : x0.length ≤ maxLen) (k0 : (Int → (List Int) → Option α)) (k1 : Option α) : ∀ (n j : Nat), x0.length < n + j → j ≤ x0.length → L0.f N x0 n (j : Int) k0 k1 = L0.l N x0 k0 k1 (x0.drop j) (j : Int)
  | 0, j, h, hj => absurd h (by omega)
  | n + 1, j, h, hj => by
    by_cases hlt : j < x0.length
    · have e1 : decide ((j : Int) < (x0.length : Int)) = true := decide_eq_true (Int.ofNat_lt.2 hlt)
      have e2 : decide ((0 : Int) ≤ (j : Int)) = true := decide_eq_true (Int.natCast_nonneg j)
      have e3 : ∀ z, x0.getD (Int.toNat (j : Int)) z = x0[j] := fun z => by rw [Int.toNat_natCast]; exact (List.getElem_eq_getD z).symm
      have e3' : ∀ z, x0.getD (0 + Int.toNat (j : Int)) z = x0[j] := fun z => by rw [Nat.zero_add]; exact e3 z
      have e4 : IntKind.i64.wrap ((j : Int) + 1) = (j : Int) + 1 := wrap_next hlt hl
      have ih : ∀ (_ : Unit), L0.f N x0 n ((j : Int) + 1) k0 k1 = L0.l N x0 k0 k1 (x0.drop (j + 1)) ((j : Int) + 1) := fun _ => L0.rng x0 hl k0 k1 n (j + 1) (by omega) (by omega)
      rw [List.drop_eq_getElem_cons hlt]
      replace ih := ih ()
      first
        | (simp only [L0.f, L0.st, L0.l, e1, e2, e3, e3', e4, Bool.true_and, Bool.and_true, Bool.and_self, cond_true, ih]; done)
        | (simp only [L0.f, L0.st, L0.l, e1, e2, e3, e3', e4, Bool.true_and, Bool.and_true, Bool.and_self, cond_true, ih]; rfl)
    · have e1 : decide ((j : Int) < (x0.length : Int)) = false := decide_eq_false (fun hc => hlt (Int.ofNat_lt.1 hc))
      rw [List.drop_eq_nil_of_le (by omega)]
      simp only [L0.f, L0.st, L0.l, e1, cond_false]
noncomputable def L1.l {α : Type} (N : Nat) (x7 : (List (List Int))) (x8 : Int) (x11 : (List Int)) (k0 : (Int → Int → (List Int) → Option α)) (k1 : (Int → Option α)) : List (List Int) → Int → Int → Option α
  | [], x10, x9 => k1 (x9)
  | x :: l, x10, x9 => (cond (decide (0 ≤ x8) && decide (x8 < (↑(List.length x) : Int))) (cond (!(petrinetref01_Add.spec x9 (List.getD x x8.toNat 0)).snd) (k0 (3) (x9) ([])) (L1.l N x7 x8 x11 k0 k1 l (x10 + 1) ((petrinetref01_Add.spec x9 (List.getD x x8.toNat 0)).fst))) (none))
theorem L1.rng {α : Type} {N : Nat} (x7 : (List (List Int))) (x8 : Int) (x11 : (List Int)) (hl : x7.length ≤ maxLen) (k0 : (Int → Int → (List Int) → Option α)) (k1 : (Int → Option α)) : ∀ (n j : Nat) (x9 : Int), x7.length < n + j → j ≤ x7.length → L1.f N x7 x8 x11 n x9 (j : Int) k0 k1 = L1.l N x7 x8 x11 k0 k1 (x7.drop j) (j : Int) x9
  | 0, j, x9, h, hj => absurd h (by omega)
  | n + 1, j, x9, h, hj => by
    by_cases hlt : j < x7.length
    · have e1 : decide ((j : Int) < (x7.length : Int)) = true := decide_eq_true (Int.ofNat_lt.2 hlt)
      have e2 : decide ((0 : Int) ≤ (j : Int)) = true := decide_eq_true (Int.natCast_nonneg j)
      have e3 : ∀ z, x7.getD (Int.toNat (j : Int)) z = x7[j] := fun z => by rw [Int.toNat_natCast]; exact (List.getElem_eq_getD z).symm
      have e3' : ∀ z, x7.getD (0 + Int.toNat (j : Int)) z = x7[j] := fun z => by rw [Nat.zero_add]; exact e3 z
      have e4 : IntKind.i64.wrap ((j : Int) + 1) = (j : Int) + 1 := wrap_next hlt hl
      have ih : ∀ (x9 : Int), L1.f N x7 x8 x11 n x9 ((j : Int) + 1) k0 k1 = L1.l N x7 x8 x11 k0 k1 (x7.drop (j + 1)) ((j : Int) + 1) x9 := fun x9 => L1.rng x7 x8 x11 hl k0 k1 n (j + 1) x9 (by omega) (by omega)
      rw [List.drop_eq_getElem_cons hlt]
      first
        | (simp only [L1.f, L1.st, L1.l, e1, e2, e3, e3', e4, Bool.true_and, Bool.and_true, Bool.and_self, cond_true, ih]; done)
        | (simp only [L1.f, L1.st, L1.l, e1, e2, e3, e3', e4, Bool.true_and, Bool.and_true, Bool.and_self, cond_true, ih]; rfl)
    · have e1 : decide ((j : Int) < (x7.length : Int)) = false := decide_eq_false (fun hc => hlt (Int.ofNat_lt.1 hc))
      rw [List.drop_eq_nil_of_le (by omega)]
      simp only [L1.f, L1.st, L1.l, e1, cond_false]
end petrinetref31_Sum
-- IMPORT ⟪semiflow.Sum⟫
/-- A column's sum. -/
def colS (k : Nat) : Int → List (List Int) → Option Int
  | s, [] => some s
  | s, v :: vs => cond (inI64 (s + v.getD k 0)) (colS k (s + v.getD k 0) vs) none
/-- The sums of m columns from k on. -/
def colsF (F : List (List Int)) : Nat → Nat → Option (List Int)
  | _, 0 => some []
  | k, m + 1 => match colS k 0 F, colsF F (k + 1) m with
    | some x, some r => some (x :: r)
    | _, _ => none
/-- The sum of rows. -/
def sumO : List Int → List (List Int) → Option (List Int)
  | acc, [] => some acc
  | acc, v :: vs => match vecOp (· + ·) acc v with
    | some r => sumO r vs
    | none => none
theorem sumVs_O : ∀ (l : List (List Int)) (acc : List Int), sumVs acc l = match sumO acc l with | some r => (r, 0) | none => ([], 3)
  | [], acc => rfl
  | v :: vs, acc => by
    simp only [sumVs, sumO]
    cases vecOp (· + ·) acc v with
    | none => rfl
    | some r => exact sumVs_O vs r
theorem sumO_cons (k : Nat) : ∀ (l : List (List Int)) (a : Int) (acc : List Int), (∀ v ∈ l, v.length = k + (acc.length + 1)) →
    sumO (a :: acc) (l.map (·.drop k)) = match colS k a l, sumO acc (l.map (·.drop (k + 1))) with
      | some x, some r => some (x :: r)
      | _, _ => none
  | [], a, acc, _ => rfl
  | v :: vs, a, acc, h => by
    have hv := h v (List.mem_cons_self ..)
    have hk : k < v.length := by omega
    have e : v.drop k = v[k] :: v.drop (k + 1) := List.drop_eq_getElem_cons hk
    have e2 : v.getD k 0 = v[k] := (List.getElem_eq_getD 0).symm
    simp only [List.map_cons, sumO, colS]
    rw [e, e2]
    simp only [vecOp]
    cases hi : inI64 (a + v[k])
    · simp only [cond_false]
    · simp only [cond_true]
      cases hr : vecOp (· + ·) acc (v.drop (k + 1)) with
      | none =>
        simp only [Option.map_none]
        cases colS k (a + v[k]) vs <;> rfl
      | some r =>
        simp only [Option.map_some]
        exact sumO_cons k vs (a + v[k]) r fun u hu => by
          have := h u (List.mem_cons_of_mem _ hu)
          rw [vecOp_len hr]
          simp
          omega
theorem sumO_nil : ∀ (l : List (List Int)), sumO [] l = some []
  | [] => rfl
  | v :: vs => by cases v <;> exact sumO_nil vs
theorem colsF_sum (F : List (List Int)) : ∀ (m k : Nat), (∀ v ∈ F, v.length = k + m) → sumO (List.replicate m 0) (F.map (·.drop k)) = colsF F k m
  | 0, k, _ => by rw [List.replicate_zero, sumO_nil]; rfl
  | m + 1, k, h => by
    rw [List.replicate_succ, sumO_cons k F 0 _ (by simpa using h), colsF_sum F m (k + 1) (fun v hv => by have := h v hv; omega)]
    rfl
theorem petrinetref31_Sum.L0.law {α : Type} {N : Nat} (F : List (List Int)) (v : List Int) (vs : List (List Int)) (hF : F = v :: vs) (k0 : Int → List Int → Option α) (k1 : Option α) : ∀ (l : List (List Int)) (j : Int),
    petrinetref31_Sum.L0.l N F k0 k1 l j = cond (l.all fun u => Nat.beq u.length v.length) k1 (k0 2 [])
  | [], j => rfl
  | x :: l, j => by
    rw [petrinetref31_Sum.L0.l, petrinetref31_Sum.L0.law F v vs hF k0 k1 l]
    have e1 : F.getD (Int.toNat 0) [] = v := by rw [hF]; rfl
    have e2 : decide (0 < (F.length : Int)) = true := by rw [hF]; exact decide_eq_true (by simp only [List.length_cons]; omega)
    rw [e1, e2, bne_len, List.all_cons]
    cases Nat.beq x.length v.length <;> rfl
theorem petrinetref31_Sum.L1.law {α : Type} {N : Nat} (F : List (List Int)) (k : Nat) (x11 : List Int) (k0 : Int → List Int → Option α) (k1 : Int → Option α) : ∀ (l : List (List Int)) (j s : Int), (∀ v ∈ l, k < v.length) →
    petrinetref31_Sum.L1.l N F (k : Int) x11 (fun x _ z => k0 x z) k1 l j s = match colS k s l with | some x => k1 x | none => k0 3 []
  | [], j, s, _ => rfl
  | v :: vs, j, s, h => by
    have hv := h v (List.mem_cons_self ..)
    simp only [petrinetref31_Sum.L1.l, d_0, d_lt hv, Bool.and_self, cond_true, Int.toNat_natCast, colS]
    unfold petrinetref01_Add.spec chk
    cases hi : inI64 (s + v.getD k 0)
    · rfl
    · exact petrinetref31_Sum.L1.law F k x11 k0 k1 vs (j + 1) _ fun u hu => h u (List.mem_cons_of_mem _ hu)
theorem petrinetref31_Sum.L2.law {α : Type} {N : Nat} (hN : 18446744073709551616 ≤ N) (F : List (List Int)) (hF : F.length ≤ maxLen) (v : List Int) (vs : List (List Int)) (hv : F = v :: vs) (hc : ∀ u ∈ F, u.length = v.length) (hl : v.length ≤ 1073741824) (k0 : Int → List Int → Option α) (k1 : List Int → Option α) :
    ∀ (n m k : Nat) (pre : List Int), m < n → k + m = v.length → pre.length = k → petrinetref31_Sum.L2.f N F n (k : Int) pre (fun x y _ => k0 x y) k1 = match colsF F k m with | some r => k1 (pre ++ r) | none => k0 3 []
  | 0, m, k, pre, h, _, _ => absurd h (by omega)
  | n + 1, m, k, pre, h, hk, hp => by
    have e1 : F.getD (Int.toNat 0) [] = v := by rw [hv]; rfl
    have e2 : decide (0 < (F.length : Int)) = true := by rw [hv]; exact decide_eq_true (by simp only [List.length_cons]; omega)
    rw [petrinetref31_Sum.L2.f, petrinetref31_Sum.L2.st, e1, e2]
    cases m with
    | zero =>
      have e3 : decide ((k : Int) < (v.length : Int)) = false := decide_eq_false (by omega)
      simp only [e3, colsF, cond_false, List.append_nil]
      rfl
    | succ m =>
      rw [d_lt (show k < v.length by omega)]
      simp only [decide_true, Bool.and_self, cond_true, Int.le_refl, Nat.le_refl]
      refine (petrinetref31_Sum.L1.rng (N := N) F (k : Int) pre hF _ _ N 0 0 (by have := le_fuel hF hN; omega) (Nat.zero_le _)).trans ?_
      rw [List.drop_zero]
      refine (petrinetref31_Sum.L1.law (N := N) F k pre (fun x y => k0 x y) _ F 0 0 (fun u hu => by rw [hc u hu]; omega)).trans ?_
      simp only [colsF]
      cases colS k 0 F with
      | none => rfl
      | some x =>
        have e4 : ((pre.length + [x].length).ble mxl) = true := Nat.ble_eq_true_of_le (by unfold mxl; simp; omega)
        simp only [e4, cond_true]
        rw [wrap_i64 (inI_i64.2 (by omega)), ← succ_cast, petrinetref31_Sum.L2.law hN F hF v vs hv hc hl k0 k1 n m (k + 1) (pre ++ [x]) (by omega) (by omega) (by simp [hp])]
        cases colsF F (k + 1) m <;> simp
theorem petrinetref31_Sum.law {α : Type} {N : Nat} (hN : 18446744073709551616 ≤ N) (a0 : List (List Int)) (w0 : K.wf (.sl (.sl (.int .i64))) a0) (hp : petrinetref31_Sum.pre a0 = true) (kr : ((List Int) → Int → Option α)) : petrinetref31_Sum.g N a0 kr = kr (petrinetref31_Sum.spec a0).1 (petrinetref31_Sum.spec a0).2 := by
  unfold petrinetref31_Sum.g petrinetref31_Sum.spec sumS
  cases a0 with
  | nil => rfl
  | cons v vs =>
    have e0 : (((v :: vs).length : Int) == 0) = false := by simp; omega
    have hv : v.length ≤ 1073741824 := by
      simp only [petrinetref31_Sum.pre, List.all_cons, Bool.and_eq_true, decide_eq_true_eq] at hp
      exact hp.1
    simp only [e0, cond_false]
    refine (petrinetref31_Sum.L0.rng (N := N) (v :: vs) w0.1 _ _ N 0 (by have := le_fuel w0.1 hN; omega) (Nat.zero_le _)).trans ?_
    rw [petrinetref31_Sum.L0.law (v :: vs) v vs rfl, List.drop_zero, List.all_cons, beq_t rfl, Bool.true_and]
    cases ha : vs.all fun u => Nat.beq u.length v.length
    · rfl
    · simp only [cond_true]
      have hc : ∀ u ∈ v :: vs, u.length = v.length := fun u hu => by
        rcases List.mem_cons.1 hu with rfl | hu
        · rfl
        · exact Nat.eq_of_beq_eq_true (List.all_eq_true.1 ha u hu)
      refine (petrinetref31_Sum.L2.law hN (v :: vs) w0.1 v vs rfl hc hv (fun x y => kr y x) (fun x => kr x 0) N v.length 0 [] (by omega) (by omega) rfl).trans ?_
      rw [← colsF_sum (v :: vs) v.length 0 (fun u hu => by rw [hc u hu]; omega), sumVs_O]
      have : (v :: vs).map (·.drop 0) = v :: vs := by simp
      rw [this]
      cases sumO (List.replicate v.length 0) (v :: vs) <;> rfl

theorem petrinetref31_Sum.ok : FentOk P 22 petrinetref31_Sum.fent := fentOk_of (by kernel_rfl) fun ds hk => by
  obtain ⟨a0, l0, rfl, h0⟩ := ds_cons hk
  obtain rfl := ds0 h0
  exact ⟨petrinetref31_Sum.pre a0, [.own (.int .i64) (petrinetref31_Sum.spec a0).1, .dat (.int .i64) (petrinetref31_Sum.spec a0).2], fun h hw => petrinetref31_Sum.calls 18446744073709551616 a0 (petrinetref31_Sum.law (Nat.le_refl _) a0 hw.1 h _), fun α k => rfl⟩
end Go.VI
set_option linter.unusedVariables false
set_option linter.unusedSimpArgs false
set_option maxRecDepth 100000
set_option maxHeartbeats 4000000
noncomputable section
namespace Go.VI
open Go Go.Proofs
namespace petrinetref08_Vectors
noncomputable def an23 : Ann := [(4, [0, 1, 5], [4])]
noncomputable def L0.sh : Sh := { sl := [(0, SV.a (SA.d (K.int IntKind.i64).sl)), (1, SV.a (SA.d (K.int IntKind.i64).sl)), (5, SV.a (SA.d (K.int IntKind.i64)))], os := [], nx := 0 }
noncomputable def L0.x0 : Sh := { sl := [(4, SV.a (SA.d K.bool))], os := [], nx := 0 }
noncomputable def L0.x1 : Sh := { sl := [(4, SV.j)], os := [], nx := 0 }
noncomputable def L0.st {α : Type} (N : Nat) (x0 : (List Int)) (x1 : (List Int)) (φ : (Int → Option α)) (x2 : Int) (k0 : (Bool → Option α)) (k1 : Option α) : Option α :=
  cond (decide (x2 < (↑x0.length : Int))) (cond (decide (0 ≤ x2) && decide (x2 < (↑x0.length : Int))) (cond (decide (0 ≤ x2) && decide (x2 < (↑x1.length : Int))) (cond (x0.getD x2.toNat 0 != x1.getD x2.toNat 0) (k0 (false)) (φ (IntKind.i64.wrap (x2 + 1)))) (none)) (none)) (k1 )
noncomputable def L0.f {α : Type} (N : Nat) (c0 : (List Int)) (c1 : (List Int)) : Nat → Int → (Bool → Option α) → Option α → Option α
  | 0, _, _, _ => none
  | n + 1, d0, k0, k1 => L0.st N c0 c1 (fun e0 => L0.f N c0 c1 n e0 k0 k1) d0 k0 k1
noncomputable def L0.F {α : Type} (N : Nat) (d : L0.sh.T) (K : Cont α) : Option α := L0.f N d.1.1 d.1.2.1 N d.1.2.2.1 (fun y0 => K (Exit.ret) (L0.x0.enc ((y0, ()), ()))) (K (Exit.exit 0) (L0.x1.enc (((), ()), ())))
noncomputable def ents23 {α : Type} (N : Nat) : List (SmE α) := [⟨0, 50, 4, [⟨L0.sh, L0.F N⟩]⟩]
noncomputable def C (N : Nat) : Ctx := ⟨tys, [], [], N⟩
noncomputable def L0.B {α : Type} (N : Nat) : Env → Cont α → Option α := evC tys 26 0 (evCall (C N) 50) (evCallQ (C N)) N an23 (smL (ents23 N) 0 50) (loopOf 4 Try.f23)
theorem L0.r {α : Type} (N : Nat) (c0 : (List Int)) (c1 : (List Int)) (φ : Env → Option α) (K : Cont α) (d0 : Int) : L0.B N (L0.sh.enc ((c0, (c1, (d0, ()))), ())) (contL φ K (Env.norm 0 [0, 1, 5]) (Env.norm 0 [4])) = L0.st N c0 c1 (fun e0 => φ (L0.sh.enc ((c0, (c1, (e0, ()))), ()))) d0 (fun y0 => K (Exit.ret) (L0.x0.enc ((y0, ()), ()))) (K (Exit.exit 0) (L0.x1.enc (((), ()), ()))) := by kernel_rfl
theorem L0.e {α : Type} (N : Nat) (c0 : (List Int)) (c1 : (List Int)) : ∀ (n : Nat) (d0 : Int) (K : Cont α), evL (L0.B N) (Env.norm 0 [0, 1, 5]) (Env.norm 0 [4]) n (L0.sh.enc ((c0, (c1, (d0, ()))), ())) K = L0.f N c0 c1 n d0 (fun y0 => K (Exit.ret) (L0.x0.enc ((y0, ()), ()))) (K (Exit.exit 0) (L0.x1.enc (((), ()), ())))
  | 0, d0, K => rfl
  | n + 1, d0, K => evL_contL.trans ((L0.r N c0 c1 (fun e => evL (L0.B N) (Env.norm 0 [0, 1, 5]) (Env.norm 0 [4]) n e K) K d0).trans (congrArg (fun φ => L0.st N c0 c1 φ d0 (fun y0 => K (Exit.ret) (L0.x0.enc ((y0, ()), ()))) (K (Exit.exit 0) (L0.x1.enc (((), ()), ())))) (funext fun e0 => L0.e N c0 c1 n e0 K)))
theorem ents23_ok {α : Type} (N : Nat) : AllP (EntOk (C N) Try.f23 an23 (ents23 (α := α) N)) (ents23 N) := ⟨entOk_of (b0 := loopOf 4 Try.f23) (li0 := [0, 1, 5]) (lx0 := [4]) (by kernel_rfl) (by kernel_rfl) ⟨fun d K => L0.e N d.1.1 d.1.2.1 N d.1.2.2.1 K, trivial⟩, trivial⟩
noncomputable def g {α : Type} (N : Nat) (a0 : List Int) (a1 : List Int) (kr : (Bool → Option α)) : Option α :=
  cond ((↑a0.length : Int) != (↑a1.length : Int)) (kr (false)) (L0.f N (a0) (a1) N (0) (fun x3 => kr (x3)) (kr (true)))
theorem eq (N : Nat) (a0 : List Int) (a1 : List Int) : evF (C N) 50 Try.f23 an23 (smL (ents23 N) 0 50) [((.bool : K), false)] [⟨.sl (.int .i64), a0⟩, ⟨.sl (.int .i64), a1⟩] = g N a0 a1 (fun r0 => some [.dat (K.bool) r0]) := by kernel_rfl
theorem ctxOk (N : Nat) : CtxOk P (C N) := ctxOk_of tysOk mixedOk trivial trivial
theorem calls (N : Nat) (a0 : List Int) (a1 : List Int) {rs : List Rs} (h : g N a0 a1 (fun r0 => some [.dat (K.bool) r0]) = some rs) : CallsTo P 23 [⟨.sl (.int .i64), a0⟩, ⟨.sl (.int .i64), a1⟩] rs := evF_calls' (ctxOk N) (by rfl) (ents23_ok N) ((eq N a0 a1).trans h)
noncomputable def L0.l {α : Type} (N : Nat) (x0 : (List Int)) (x1 : (List Int)) (k0 : (Bool → Option α)) (k1 : Option α) : List Int → Int → Option α
  | [], x2 => k1 
  | x :: l, x2 => (cond (decide (0 ≤ x2) && decide (x2 < (↑x1.length : Int))) (cond (x != x1.getD x2.toNat 0) (k0 (false)) (L0.l N x0 x1 k0 k1 l (x2 + 1))) (none))
theorem L0.rng {α : Type} {N : Nat} (x0 : (List Int)) (x1 : (List Int)) (hl : x0.length ≤ maxLen) (k0 : (Bool → Option α)) (k1 : Option α) : ∀ (n j : Nat), x0.length < n + j → j ≤ x0.length → L0.f N x0 x1 n (j : Int) k0 k1 = L0.l N x0 x1 k0 k1 (x0.drop j) (j : Int)
  | 0, j, h, hj => absurd h (by omega)
  | n + 1, j, h, hj => by
    by_cases hlt : j < x0.length
    · have e1 : decide ((j : Int) < (x0.length : Int)) = true := decide_eq_true (Int.ofNat_lt.2 hlt)
      have e2 : decide ((0 : Int) ≤ (j : Int)) = true := decide_eq_true (Int.natCast_nonneg j)
      have e3 : ∀ z, x0.getD (Int.toNat (j : Int)) z = x0[j] := fun z => by rw [Int.toNat_natCast]; exact (List.getElem_eq_getD z).symm
      have e3' : ∀ z, x0.getD (0 + Int.toNat (j : Int)) z = x0[j] := fun z => by rw [Nat.zero_add]; exact e3 z
      have e4 : IntKind.i64.wrap ((j : Int) + 1) = (j : Int) + 1 := wrap_next hlt hl
      have ih : ∀ (_ : Unit), L0.f N x0 x1 n ((j : Int) + 1) k0 k1 = L0.l N x0 x1 k0 k1 (x0.drop (j + 1)) ((j : Int) + 1) := fun _ => L0.rng x0 x1 hl k0 k1 n (j + 1) (by omega) (by omega)
      rw [List.drop_eq_getElem_cons hlt]
      replace ih := ih ()
      first
        | (simp only [L0.f, L0.st, L0.l, e1, e2, e3, e3', e4, Bool.true_and, Bool.and_true, Bool.and_self, cond_true, ih]; done)
        | (simp only [L0.f, L0.st, L0.l, e1, e2, e3, e3', e4, Bool.true_and, Bool.and_true, Bool.and_self, cond_true, ih]; rfl)
    · have e1 : decide ((j : Int) < (x0.length : Int)) = false := decide_eq_false (fun hc => hlt (Int.ofNat_lt.1 hc))
      rw [List.drop_eq_nil_of_le (by omega)]
      simp only [L0.f, L0.st, L0.l, e1, cond_false]
end petrinetref08_Vectors
theorem petrinetref08_Vectors.L0.law {α : Type} {N : Nat} (a b : List Int) (k0 : Bool → Option α) (k1 : Option α) (hab : a.length = b.length) : ∀ (l : List Int) (j : Nat), l = a.drop j →
    petrinetref08_Vectors.L0.l N a b k0 k1 l (j : Int) = cond (decide (l = b.drop j)) k1 (k0 false)
  | [], j, hl => by
    have : b.drop j = [] := by
      apply List.drop_eq_nil_of_le
      have := congrArg List.length hl
      simp at this
      omega
    rw [this]
    simp [petrinetref08_Vectors.L0.l]
  | x :: l, j, hl => by
    obtain ⟨hj, hx, hl'⟩ := drop_step hl
    have hb : j < b.length := hab ▸ hj
    rw [List.drop_eq_getElem_cons hb]
    simp only [petrinetref08_Vectors.L0.l, d_0, d_lt hb, getD_at hb, Bool.and_self, cond_true]
    rw [← succ_cast, petrinetref08_Vectors.L0.law a b k0 k1 hab l (j + 1) hl']
    by_cases he : x = b[j]
    · subst he
      simp only [bne_self_eq_false, cond_false, List.cons.injEq, true_and]
    · have e1 : (x != b[j]) = true := by simp [he]
      simp only [e1, cond_true, List.cons.injEq, he, false_and, decide_false, cond_false]
theorem petrinetref08_Vectors.law {α : Type} {N : Nat} (hN : 18446744073709551616 ≤ N) (a0 : List Int) (a1 : List Int) (w0 : K.wf (.sl (.int .i64)) a0) (w1 : K.wf (.sl (.int .i64)) a1) (kr : (Bool → Option α)) : petrinetref08_Vectors.g N a0 a1 kr = kr (petrinetref08_Vectors.spec a0 a1) := by
  unfold petrinetref08_Vectors.g petrinetref08_Vectors.spec
  rw [bne_len]
  by_cases h : a0.length = a1.length
  · simp only [beq_t h, Bool.not_true, cond_false]
    have h1 := petrinetref08_Vectors.L0.rng (N := N) a0 a1 w0.1 (fun x => kr x) (kr true) N 0 (by have := le_fuel w0.1 hN; omega) (Nat.zero_le _)
    refine h1.trans ((petrinetref08_Vectors.L0.law (N := N) a0 a1 (fun x => kr x) (kr true) h a0 0 rfl).trans ?_)
    by_cases he : a0 = a1 <;> simp [he]
  · have : a0 ≠ a1 := fun hc => h (by rw [hc])
    simp only [beq_f h, Bool.not_false, cond_true, this, decide_false]

theorem petrinetref08_Vectors.ok : FentOk P 23 petrinetref08_Vectors.fent := fentOk_of (by kernel_rfl) fun ds hk => by
  obtain ⟨a0, l0, rfl, h0⟩ := ds_cons hk
  obtain ⟨a1, l1, rfl, h1⟩ := ds_cons h0
  obtain rfl := ds0 h1
  exact ⟨true, [.dat (.bool) (petrinetref08_Vectors.spec a0 a1)], fun h hw => petrinetref08_Vectors.calls 18446744073709551616 a0 a1 (petrinetref08_Vectors.law (Nat.le_refl _) a0 a1 hw.1 hw.2.1 _), fun α k => rfl⟩
end Go.VI
set_option linter.unusedVariables false
set_option linter.unusedSimpArgs false
set_option maxRecDepth 100000
set_option maxHeartbeats 4000000
noncomputable section
namespace Go.VI
open Go Go.Proofs
namespace semiflow_Covered
noncomputable def an24 : Ann := [(2, [0, 1, 5], [4]), (5, [0, 1, 5, 13, 14, 15], [0, 1, 5])]
noncomputable def L0.sh : Sh := { sl := [(0, SV.a (SA.d (K.int IntKind.i64).sl.sl)), (1, SV.a (SA.d (K.int IntKind.i64))), (5, SV.a (SA.d (K.int IntKind.i64))), (13, SV.a (SA.d (K.int IntKind.i64).sl.sl)), (14, SV.a (SA.d (K.int IntKind.i64))), (15, SV.a (SA.d (K.int IntKind.i64)))], os := [], nx := 0 }
noncomputable def L0.x0 : Sh := { sl := [(0, SV.a (SA.d (K.int IntKind.i64).sl.sl)), (1, SV.a (SA.d (K.int IntKind.i64))), (5, SV.a (SA.d (K.int IntKind.i64)))], os := [], nx := 0 }
noncomputable def L0.x1 : Sh := { sl := [(0, SV.a (SA.d (K.int IntKind.i64).sl.sl)), (1, SV.a (SA.d (K.int IntKind.i64))), (5, SV.a (SA.d (K.int IntKind.i64)))], os := [], nx := 0 }
noncomputable def L0.st {α : Type} (N : Nat) (x3 : (List (List Int))) (x4 : Int) (x5 : Int) (x6 : (List (List Int))) (x7 : Int) (φ : (Int → Option α)) (x8 : Int) (k0 : Option α) (k1 : Option α) : Option α :=
  cond (decide (x8 < x7)) (cond (decide (0 ≤ x8) && decide (x8 < (↑x6.length : Int))) (cond (decide (x5 < (↑(List.length (x6.getD x8.toNat [])) : Int))) (cond (decide (0 ≤ x5) && decide (x5 < (↑(List.length (x6.getD x8.toNat [])) : Int))) (cond (List.getD (x6.getD x8.toNat []) x5.toNat 0 != 0) (k0 ) (φ (IntKind.i64.wrap (x8 + 1)))) (none)) (φ (IntKind.i64.wrap (x8 + 1)))) (none)) (k1 )
noncomputable def L0.f {α : Type} (N : Nat) (c0 : (List (List Int))) (c1 : Int) (c2 : Int) (c3 : (List (List Int))) (c4 : Int) : Nat → Int → Option α → Option α → Option α
  | 0, _, _, _ => none
  | n + 1, d0, k0, k1 => L0.st N c0 c1 c2 c3 c4 (fun e0 => L0.f N c0 c1 c2 c3 c4 n e0 k0 k1) d0 k0 k1
noncomputable def L0.F {α : Type} (N : Nat) (d : L0.sh.T) (K : Cont α) : Option α := L0.f N d.1.1 d.1.2.1 d.1.2.2.1 d.1.2.2.2.1 d.1.2.2.2.2.1 N d.1.2.2.2.2.2.1 (K (Exit.exit 1) (L0.x0.enc ((d.1.1, (d.1.2.1, (d.1.2.2.1, ()))), ()))) (K (Exit.exit 2) (L0.x1.enc ((d.1.1, (d.1.2.1, (d.1.2.2.1, ()))), ())))
noncomputable def L1.sh : Sh := { sl := [(0, SV.a (SA.d (K.int IntKind.i64).sl.sl)), (1, SV.a (SA.d (K.int IntKind.i64))), (5, SV.a (SA.d (K.int IntKind.i64)))], os := [], nx := 0 }
noncomputable def L1.x0 : Sh := { sl := [(4, SV.a (SA.d K.bool))], os := [], nx := 0 }
noncomputable def L1.x1 : Sh := { sl := [(4, SV.j)], os := [], nx := 0 }
noncomputable def L1.st {α : Type} (N : Nat) (x0 : (List (List Int))) (x1 : Int) (φ : (Int → Option α)) (x2 : Int) (k0 : (Bool → Option α)) (k1 : Option α) : Option α :=
  cond (decide (x2 < x1)) (L0.f N (x0) (x1) (x2) (x0) ((↑x0.length : Int)) N (0) (φ (IntKind.i64.wrap (x2 + 1))) (k0 (false))) (k1 )
noncomputable def L1.f {α : Type} (N : Nat) (c0 : (List (List Int))) (c1 : Int) : Nat → Int → (Bool → Option α) → Option α → Option α
  | 0, _, _, _ => none
  | n + 1, d0, k0, k1 => L1.st N c0 c1 (fun e0 => L1.f N c0 c1 n e0 k0 k1) d0 k0 k1
noncomputable def L1.F {α : Type} (N : Nat) (d : L1.sh.T) (K : Cont α) : Option α := L1.f N d.1.1 d.1.2.1 N d.1.2.2.1 (fun y0 => K (Exit.ret) (L1.x0.enc ((y0, ()), ()))) (K (Exit.exit 0) (L1.x1.enc (((), ()), ())))
noncomputable def ents24 {α : Type} (N : Nat) : List (SmE α) := [⟨0, 50, 5, [⟨L0.sh, L0.F N⟩]⟩, ⟨0, 50, 2, [⟨L1.sh, L1.F N⟩]⟩]
noncomputable def C (N : Nat) : Ctx := ⟨tys, [], [], N⟩
noncomputable def L0.B {α : Type} (N : Nat) : Env → Cont α → Option α := evC tys 31 0 (evCall (C N) 50) (evCallQ (C N)) N an24 (smL (ents24 N) 0 50) (loopOf 5 Try.f24)
theorem L0.r {α : Type} (N : Nat) (c0 : (List (List Int))) (c1 : Int) (c2 : Int) (c3 : (List (List Int))) (c4 : Int) (φ : Env → Option α) (K : Cont α) (d0 : Int) : L0.B N (L0.sh.enc ((c0, (c1, (c2, (c3, (c4, (d0, ())))))), ())) (contL φ K (Env.norm 0 [0, 1, 5, 13, 14, 15]) (Env.norm 0 [0, 1, 5])) = L0.st N c0 c1 c2 c3 c4 (fun e0 => φ (L0.sh.enc ((c0, (c1, (c2, (c3, (c4, (e0, ())))))), ()))) d0 (K (Exit.exit 1) (L0.x0.enc ((c0, (c1, (c2, ()))), ()))) (K (Exit.exit 2) (L0.x1.enc ((c0, (c1, (c2, ()))), ()))) := by kernel_rfl
theorem L0.e {α : Type} (N : Nat) (c0 : (List (List Int))) (c1 : Int) (c2 : Int) (c3 : (List (List Int))) (c4 : Int) : ∀ (n : Nat) (d0 : Int) (K : Cont α), evL (L0.B N) (Env.norm 0 [0, 1, 5, 13, 14, 15]) (Env.norm 0 [0, 1, 5]) n (L0.sh.enc ((c0, (c1, (c2, (c3, (c4, (d0, ())))))), ())) K = L0.f N c0 c1 c2 c3 c4 n d0 (K (Exit.exit 1) (L0.x0.enc ((c0, (c1, (c2, ()))), ()))) (K (Exit.exit 2) (L0.x1.enc ((c0, (c1, (c2, ()))), ())))
  | 0, d0, K => rfl
  | n + 1, d0, K => evL_contL.trans ((L0.r N c0 c1 c2 c3 c4 (fun e => evL (L0.B N) (Env.norm 0 [0, 1, 5, 13, 14, 15]) (Env.norm 0 [0, 1, 5]) n e K) K d0).trans (congrArg (fun φ => L0.st N c0 c1 c2 c3 c4 φ d0 (K (Exit.exit 1) (L0.x0.enc ((c0, (c1, (c2, ()))), ()))) (K (Exit.exit 2) (L0.x1.enc ((c0, (c1, (c2, ()))), ())))) (funext fun e0 => L0.e N c0 c1 c2 c3 c4 n e0 K)))
noncomputable def L1.B {α : Type} (N : Nat) : Env → Cont α → Option α := evC tys 31 0 (evCall (C N) 50) (evCallQ (C N)) N an24 (smL (ents24 N) 0 50) (loopOf 2 Try.f24)
theorem L1.r {α : Type} (N : Nat) (c0 : (List (List Int))) (c1 : Int) (φ : Env → Option α) (K : Cont α) (d0 : Int) : L1.B N (L1.sh.enc ((c0, (c1, (d0, ()))), ())) (contL φ K (Env.norm 0 [0, 1, 5]) (Env.norm 0 [4])) = L1.st N c0 c1 (fun e0 => φ (L1.sh.enc ((c0, (c1, (e0, ()))), ()))) d0 (fun y0 => K (Exit.ret) (L1.x0.enc ((y0, ()), ()))) (K (Exit.exit 0) (L1.x1.enc (((), ()), ()))) := by kernel_rfl
theorem L1.e {α : Type} (N : Nat) (c0 : (List (List Int))) (c1 : Int) : ∀ (n : Nat) (d0 : Int) (K : Cont α), evL (L1.B N) (Env.norm 0 [0, 1, 5]) (Env.norm 0 [4]) n (L1.sh.enc ((c0, (c1, (d0, ()))), ())) K = L1.f N c0 c1 n d0 (fun y0 => K (Exit.ret) (L1.x0.enc ((y0, ()), ()))) (K (Exit.exit 0) (L1.x1.enc (((), ()), ())))
  | 0, d0, K => rfl
  | n + 1, d0, K => evL_contL.trans ((L1.r N c0 c1 (fun e => evL (L1.B N) (Env.norm 0 [0, 1, 5]) (Env.norm 0 [4]) n e K) K d0).trans (congrArg (fun φ => L1.st N c0 c1 φ d0 (fun y0 => K (Exit.ret) (L1.x0.enc ((y0, ()), ()))) (K (Exit.exit 0) (L1.x1.enc (((), ()), ())))) (funext fun e0 => L1.e N c0 c1 n e0 K)))
theorem ents24_ok {α : Type} (N : Nat) : AllP (EntOk (C N) Try.f24 an24 (ents24 (α := α) N)) (ents24 N) := ⟨entOk_of (b0 := loopOf 5 Try.f24) (li0 := [0, 1, 5, 13, 14, 15]) (lx0 := [0, 1, 5]) (by kernel_rfl) (by kernel_rfl) ⟨fun d K => L0.e N d.1.1 d.1.2.1 d.1.2.2.1 d.1.2.2.2.1 d.1.2.2.2.2.1 N d.1.2.2.2.2.2.1 K, trivial⟩, entOk_of (b0 := loopOf 2 Try.f24) (li0 := [0, 1, 5]) (lx0 := [4]) (by kernel_rfl) (by kernel_rfl) ⟨fun d K => L1.e N d.1.1 d.1.2.1 N d.1.2.2.1 K, trivial⟩, trivial⟩
noncomputable def g {α : Type} (N : Nat) (a0 : List (List Int)) (a1 : Int) (kr : (Bool → Option α)) : Option α :=
  L1.f N (a0) (a1) N (0) (fun x9 => kr (x9)) (kr (true))
theorem eq (N : Nat) (a0 : List (List Int)) (a1 : Int) : evF (C N) 50 Try.f24 an24 (smL (ents24 N) 0 50) [((.bool : K), false)] [⟨.sl (.sl (.int .i64)), a0⟩, ⟨.int .i64, a1⟩] = g N a0 a1 (fun r0 => some [.dat (K.bool) r0]) := by kernel_rfl
theorem ctxOk (N : Nat) : CtxOk P (C N) := ctxOk_of tysOk mixedOk trivial trivial
theorem calls (N : Nat) (a0 : List (List Int)) (a1 : Int) {rs : List Rs} (h : g N a0 a1 (fun r0 => some [.dat (K.bool) r0]) = some rs) : CallsTo P 24 [⟨.sl (.sl (.int .i64)), a0⟩, ⟨.int .i64, a1⟩] rs := evF_calls' (ctxOk N) (by rfl) (ents24_ok N) ((eq N a0 a1).trans h)
noncomputable def L0.l {α : Type} (N : Nat) (x3 : (List (List Int))) (x4 : Int) (x5 : Int) (x6 : (List (List Int))) (k0 : Option α) (k1 : Option α) : List (List Int) → Int → Option α
  | [], x8 => k1 
  | x :: l, x8 => (cond (decide (x5 < (↑(List.length x) : Int))) (cond (decide (0 ≤ x5) && decide (x5 < (↑(List.length x) : Int))) (cond (List.getD x x5.toNat 0 != 0) (k0 ) (L0.l N x3 x4 x5 x6 k0 k1 l (x8 + 1))) (none)) (L0.l N x3 x4 x5 x6 k0 k1 l (x8 + 1)))
theorem L0.rng {α : Type} {N : Nat} (x3 : (List (List Int))) (x4 : Int) (x5 : Int) (x6 : (List (List Int))) (hl : x6.length ≤ maxLen) (k0 : Option α) (k1 : Option α) : ∀ (n j : Nat), x6.length < n + j → j ≤ x6.length → L0.f N x3 x4 x5 x6 (x6.length : Int) n (j : Int) k0 k1 = L0.l N x3 x4 x5 x6 k0 k1 (x6.drop j) (j : Int)
  | 0, j, h, hj => absurd h (by omega)
  | n + 1, j, h, hj => by
    by_cases hlt : j < x6.length
    · have e1 : decide ((j : Int) < (x6.length : Int)) = true := decide_eq_true (Int.ofNat_lt.2 hlt)
      have e2 : decide ((0 : Int) ≤ (j : Int)) = true := decide_eq_true (Int.natCast_nonneg j)
      have e3 : ∀ z, x6.getD (Int.toNat (j : Int)) z = x6[j] := fun z => by rw [Int.toNat_natCast]; exact (List.getElem_eq_getD z).symm
      have e3' : ∀ z, x6.getD (0 + Int.toNat (j : Int)) z = x6[j] := fun z => by rw [Nat.zero_add]; exact e3 z
      have e4 : IntKind.i64.wrap ((j : Int) + 1) = (j : Int) + 1 := wrap_next hlt hl
      have ih : ∀ (_ : Unit), L0.f N x3 x4 x5 x6 (x6.length : Int) n ((j : Int) + 1) k0 k1 = L0.l N x3 x4 x5 x6 k0 k1 (x6.drop (j + 1)) ((j : Int) + 1) := fun _ => L0.rng x3 x4 x5 x6 hl k0 k1 n (j + 1) (by omega) (by omega)
      rw [List.drop_eq_getElem_cons hlt]
      replace ih := ih ()
      first
        | (simp only [L0.f, L0.st, L0.l, e1, e2, e3, e3', e4, Bool.true_and, Bool.and_true, Bool.and_self, cond_true, ih]; done)
        | (simp only [L0.f, L0.st, L0.l, e1, e2, e3, e3', e4, Bool.true_and, Bool.and_true, Bool.and_self, cond_true, ih]; rfl)
    · have e1 : decide ((j : Int) < (x6.length : Int)) = false := decide_eq_false (fun hc => hlt (Int.ofNat_lt.1 hc))
      rw [List.drop_eq_nil_of_le (by omega)]
      simp only [L0.f, L0.st, L0.l, e1, cond_false]
end semiflow_Covered
theorem nz_step (i : Int) (hi : 0 ≤ i) (x : List Int) {α : Type} (p q : Option α) : cond (decide (i < (x.length : Int))) (cond (decide (0 ≤ i) && decide (i < (x.length : Int))) (cond (x.getD i.toNat 0 != 0) p q) none) q = cond (nz i x) p q := by
  unfold nz
  have e0 : decide (0 ≤ i) = true := decide_eq_true hi
  cases h : decide (i < (x.length : Int))
  · rfl
  · simp only [e0, Bool.and_self, cond_true, Bool.true_and]
    rfl
theorem semiflow_Covered.L0.law {α : Type} {N : Nat} (F : List (List Int)) (k i : Int) (hi : 0 ≤ i) (xs : List (List Int)) (k0 k1 : Option α) : ∀ (l : List (List Int)) (j : Int),
    semiflow_Covered.L0.l N F k i xs k0 k1 l j = cond (l.any (nz i)) k0 k1
  | [], j => rfl
  | x :: l, j => by
    rw [semiflow_Covered.L0.l, semiflow_Covered.L0.law F k i hi xs k0 k1 l, nz_step i hi x, List.any_cons]
    cases nz i x <;> rfl
theorem covered_step {k : Nat} (flows : List (List Int)) {m : Nat} (h : m < k) : (((List.range k).drop m).all fun (i : Nat) => flows.any fun v => nz i v) = ((flows.any (nz (m : Int))) && ((List.range k).drop (m + 1)).all fun (i : Nat) => flows.any fun v => nz i v) := by
  have hm : m < (List.range k).length := by simpa using h
  rw [List.drop_eq_getElem_cons hm, List.all_cons, List.getElem_range]
theorem semiflow_Covered.L1.law {α : Type} {N : Nat} (hN : 18446744073709551616 ≤ N) (F : List (List Int)) (hF : F.length ≤ maxLen) (k : Nat) (hk : k < 9223372036854775808) (k0 : Bool → Option α) (k1 : Option α) : ∀ (n m : Nat), k < n + m → m ≤ k →
    semiflow_Covered.L1.f N F (k : Int) n (m : Int) k0 k1 = cond (((List.range k).drop m).all fun (i : Nat) => F.any fun v => nz i v) k1 (k0 false)
  | 0, m, h, hm => absurd h (by omega)
  | n + 1, m, h, hm => by
    rw [semiflow_Covered.L1.f, semiflow_Covered.L1.st]
    by_cases hl : m < k
    · rw [d_lt hl, cond_true]
      refine (semiflow_Covered.L0.rng (N := N) F (k : Int) (m : Int) F hF _ _ N 0 (by have := le_fuel hF hN; omega) (Nat.zero_le _)).trans ?_
      rw [semiflow_Covered.L0.law F k m (Int.natCast_nonneg m), List.drop_zero, covered_step F hl, wrap_i64 (inI_i64.2 (by omega)), ← succ_cast,
        semiflow_Covered.L1.law hN F hF k hk k0 k1 n (m + 1) (by omega) (by omega)]
      cases F.any (nz (m : Int)) <;> rfl
    · have : decide ((m : Int) < (k : Int)) = false := decide_eq_false (by omega)
      rw [this, cond_false, List.drop_eq_nil_of_le (by simp; omega)]
      rfl
theorem semiflow_Covered.law {α : Type} {N : Nat} (hN : 18446744073709551616 ≤ N) (a0 : List (List Int)) (a1 : Int) (w0 : K.wf (.sl (.sl (.int .i64))) a0) (w1 : K.wf (.int .i64) a1) (kr : (Bool → Option α)) : semiflow_Covered.g N a0 a1 kr = kr (semiflow_Covered.spec a0 a1) := by
  unfold semiflow_Covered.g semiflow_Covered.spec coveredS
  obtain ⟨h1, h2⟩ := inI_i64.1 w1
  by_cases h : 0 ≤ a1
  · obtain ⟨k, rfl⟩ := Int.eq_ofNat_of_zero_le h
    refine (semiflow_Covered.L1.law hN a0 w0.1 k (by omega) (fun x => kr x) (kr true) N 0 (by omega) (Nat.zero_le _)).trans ?_
    rw [List.drop_zero, Int.toNat_natCast]
    cases (List.range k).all fun (i : Nat) => a0.any fun v => nz i v <;> rfl
  · have e : a1.toNat = 0 := by omega
    rw [e]
    obtain ⟨M, rfl⟩ : ∃ M, N = M + 1 := ⟨N - 1, by omega⟩
    have e1 : decide (0 < a1) = false := decide_eq_false (by omega)
    simp only [semiflow_Covered.L1.f, semiflow_Covered.L1.st, e1, cond_false, List.range_zero, List.all_nil]

theorem semiflow_Covered.ok : FentOk P 24 semiflow_Covered.fent := fentOk_of (by kernel_rfl) fun ds hk => by
  obtain ⟨a0, l0, rfl, h0⟩ := ds_cons hk
  obtain ⟨a1, l1, rfl, h1⟩ := ds_cons h0
  obtain rfl := ds0 h1
  exact ⟨true, [.dat (.bool) (semiflow_Covered.spec a0 a1)], fun h hw => semiflow_Covered.calls 18446744073709551616 a0 a1 (semiflow_Covered.law (Nat.le_refl _) a0 a1 hw.1 hw.2.1 _), fun α k => rfl⟩
end Go.VI
set_option linter.unusedVariables false
set_option linter.unusedSimpArgs false
set_option maxRecDepth 100000
set_option maxHeartbeats 4000000
noncomputable section
namespace Go.VI
open Go Go.Proofs
namespace petrinetref31_Covered
noncomputable def an25 : Ann := [(2, [0, 1, 5], [4]), (6, [0, 1, 5, 6, 7], [0, 1, 5, 6])]
noncomputable def L0.sh : Sh := { sl := [(0, SV.a (SA.d (K.int IntKind.i64).sl.sl)), (1, SV.a (SA.d (K.int IntKind.i64))), (5, SV.a (SA.d (K.int IntKind.i64))), (6, SV.a (SA.d K.bool)), (7, SV.a (SA.d (K.int IntKind.i64)))], os := [], nx := 0 }
noncomputable def L0.x0 : Sh := { sl := [(0, SV.a (SA.d (K.int IntKind.i64).sl.sl)), (1, SV.a (SA.d (K.int IntKind.i64))), (5, SV.a (SA.d (K.int IntKind.i64))), (6, SV.a (SA.d K.bool))], os := [], nx := 0 }
noncomputable def L0.st {α : Type} (N : Nat) (x3 : (List (List Int))) (x4 : Int) (x5 : Int) (φ : (Bool → Int → Option α)) (x6 : Bool) (x7 : Int) (k0 : (Bool → Option α)) : Option α :=
  cond (decide (x7 < (↑x3.length : Int))) (cond (x6) (φ (true) (IntKind.i64.wrap (x7 + 1))) (cond (decide (0 ≤ x7) && decide (x7 < (↑x3.length : Int))) (cond (decide (x5 < (↑(List.length (x3.getD x7.toNat [])) : Int))) (cond (decide (0 ≤ x7) && decide (x7 < (↑x3.length : Int))) (cond (decide (0 ≤ x5) && decide (x5 < (↑(List.length (x3.getD x7.toNat [])) : Int))) (φ (List.getD (x3.getD x7.toNat []) x5.toNat 0 != 0) (IntKind.i64.wrap (x7 + 1))) (none)) (none)) (φ (false) (IntKind.i64.wrap (x7 + 1)))) (none))) (k0 (x6))
noncomputable def L0.f {α : Type} (N : Nat) (c0 : (List (List Int))) (c1 : Int) (c2 : Int) : Nat → Bool → Int → (Bool → Option α) → Option α
  | 0, _, _, _ => none
  | n + 1, d0, d1, k0 => L0.st N c0 c1 c2 (fun e0 e1 => L0.f N c0 c1 c2 n e0 e1 k0) d0 d1 k0
noncomputable def L0.F {α : Type} (N : Nat) (d : L0.sh.T) (K : Cont α) : Option α := L0.f N d.1.1 d.1.2.1 d.1.2.2.1 N d.1.2.2.2.1 d.1.2.2.2.2.1 (fun y0 => K (Exit.exit 2) (L0.x0.enc ((d.1.1, (d.1.2.1, (d.1.2.2.1, (y0, ())))), ())))
noncomputable def L1.sh : Sh := { sl := [(0, SV.a (SA.d (K.int IntKind.i64).sl.sl)), (1, SV.a (SA.d (K.int IntKind.i64))), (5, SV.a (SA.d (K.int IntKind.i64)))], os := [], nx := 0 }
noncomputable def L1.x0 : Sh := { sl := [(4, SV.a (SA.d K.bool))], os := [], nx := 0 }
noncomputable def L1.x1 : Sh := { sl := [(4, SV.j)], os := [], nx := 0 }
noncomputable def L1.st {α : Type} (N : Nat) (x0 : (List (List Int))) (x1 : Int) (φ : (Int → Option α)) (x2 : Int) (k0 : (Bool → Option α)) (k1 : Option α) : Option α :=
  cond (decide (x2 < x1)) (L0.f N (x0) (x1) (x2) N (false) (0) (fun x8 => cond (!x8) (k0 (false)) (φ (IntKind.i64.wrap (x2 + 1))))) (k1 )
noncomputable def L1.f {α : Type} (N : Nat) (c0 : (List (List Int))) (c1 : Int) : Nat → Int → (Bool → Option α) → Option α → Option α
  | 0, _, _, _ => none
  | n + 1, d0, k0, k1 => L1.st N c0 c1 (fun e0 => L1.f N c0 c1 n e0 k0 k1) d0 k0 k1
noncomputable def L1.F {α : Type} (N : Nat) (d : L1.sh.T) (K : Cont α) : Option α := L1.f N d.1.1 d.1.2.1 N d.1.2.2.1 (fun y0 => K (Exit.ret) (L1.x0.enc ((y0, ()), ()))) (K (Exit.exit 0) (L1.x1.enc (((), ()), ())))
noncomputable def ents25 {α : Type} (N : Nat) : List (SmE α) := [⟨0, 50, 6, [⟨L0.sh, L0.F N⟩]⟩, ⟨0, 50, 2, [⟨L1.sh, L1.F N⟩]⟩]
noncomputable def C (N : Nat) : Ctx := ⟨tys, [], [], N⟩
noncomputable def L0.B {α : Type} (N : Nat) : Env → Cont α → Option α := evC tys 41 0 (evCall (C N) 50) (evCallQ (C N)) N an25 (smL (ents25 N) 0 50) (loopOf 6 Try.f25)
theorem L0.r {α : Type} (N : Nat) (c0 : (List (List Int))) (c1 : Int) (c2 : Int) (φ : Env → Option α) (K : Cont α) (d0 : Bool) (d1 : Int) : L0.B N (L0.sh.enc ((c0, (c1, (c2, (d0, (d1, ()))))), ())) (contL φ K (Env.norm 0 [0, 1, 5, 6, 7]) (Env.norm 0 [0, 1, 5, 6])) = L0.st N c0 c1 c2 (fun e0 e1 => φ (L0.sh.enc ((c0, (c1, (c2, (e0, (e1, ()))))), ()))) d0 d1 (fun y0 => K (Exit.exit 2) (L0.x0.enc ((c0, (c1, (c2, (y0, ())))), ()))) := by kernel_rfl
theorem L0.e {α : Type} (N : Nat) (c0 : (List (List Int))) (c1 : Int) (c2 : Int) : ∀ (n : Nat) (d0 : Bool) (d1 : Int) (K : Cont α), evL (L0.B N) (Env.norm 0 [0, 1, 5, 6, 7]) (Env.norm 0 [0, 1, 5, 6]) n (L0.sh.enc ((c0, (c1, (c2, (d0, (d1, ()))))), ())) K = L0.f N c0 c1 c2 n d0 d1 (fun y0 => K (Exit.exit 2) (L0.x0.enc ((c0, (c1, (c2, (y0, ())))), ())))
  | 0, d0, d1, K => rfl
  | n + 1, d0, d1, K => evL_contL.trans ((L0.r N c0 c1 c2 (fun e => evL (L0.B N) (Env.norm 0 [0, 1, 5, 6, 7]) (Env.norm 0 [0, 1, 5, 6]) n e K) K d0 d1).trans (congrArg (fun φ => L0.st N c0 c1 c2 φ d0 d1 (fun y0 => K (Exit.exit 2) (L0.x0.enc ((c0, (c1, (c2, (y0, ())))), ())))) (funext fun e0 => funext fun e1 => L0.e N c0 c1 c2 n e0 e1 K)))
noncomputable def L1.B {α : Type} (N : Nat) : Env → Cont α → Option α := evC tys 41 0 (evCall (C N) 50) (evCallQ (C N)) N an25 (smL (ents25 N) 0 50) (loopOf 2 Try.f25)
theorem L1.r {α : Type} (N : Nat) (c0 : (List (List Int))) (c1 : Int) (φ : Env → Option α) (K : Cont α) (d0 : Int) : L1.B N (L1.sh.enc ((c0, (c1, (d0, ()))), ())) (contL φ K (Env.norm 0 [0, 1, 5]) (Env.norm 0 [4])) = L1.st N c0 c1 (fun e0 => φ (L1.sh.enc ((c0, (c1, (e0, ()))), ()))) d0 (fun y0 => K (Exit.ret) (L1.x0.enc ((y0, ()), ()))) (K (Exit.exit 0) (L1.x1.enc (((), ()), ()))) := by kernel_rfl
theorem L1.e {α : Type} (N : Nat) (c0 : (List (List Int))) (c1 : Int) : ∀ (n : Nat) (d0 : Int) (K : Cont α), evL (L1.B N) (Env.norm 0 [0, 1, 5]) (Env.norm 0 [4]) n (L1.sh.enc ((c0, (c1, (d0, ()))), ())) K = L1.f N c0 c1 n d0 (fun y0 => K (Exit.ret) (L1.x0.enc ((y0, ()), ()))) (K (Exit.exit 0) (L1.x1.enc (((), ()), ())))
  | 0, d0, K => rfl
  | n + 1, d0, K => evL_contL.trans ((L1.r N c0 c1 (fun e => evL (L1.B N) (Env.norm 0 [0, 1, 5]) (Env.norm 0 [4]) n e K) K d0).trans (congrArg (fun φ => L1.st N c0 c1 φ d0 (fun y0 => K (Exit.ret) (L1.x0.enc ((y0, ()), ()))) (K (Exit.exit 0) (L1.x1.enc (((), ()), ())))) (funext fun e0 => L1.e N c0 c1 n e0 K)))
theorem ents25_ok {α : Type} (N : Nat) : AllP (EntOk (C N) Try.f25 an25 (ents25 (α := α) N)) (ents25 N) := ⟨entOk_of (b0 := loopOf 6 Try.f25) (li0 := [0, 1, 5, 6, 7]) (lx0 := [0, 1, 5, 6]) (by kernel_rfl) (by kernel_rfl) ⟨fun d K => L0.e N d.1.1 d.1.2.1 d.1.2.2.1 N d.1.2.2.2.1 d.1.2.2.2.2.1 K, trivial⟩, entOk_of (b0 := loopOf 2 Try.f25) (li0 := [0, 1, 5]) (lx0 := [4]) (by kernel_rfl) (by kernel_rfl) ⟨fun d K => L1.e N d.1.1 d.1.2.1 N d.1.2.2.1 K, trivial⟩, trivial⟩
noncomputable def g {α : Type} (N : Nat) (a0 : List (List Int)) (a1 : Int) (kr : (Bool → Option α)) : Option α :=
  L1.f N (a0) (a1) N (0) (fun x9 => kr (x9)) (kr (true))
theorem eq (N : Nat) (a0 : List (List Int)) (a1 : Int) : evF (C N) 50 Try.f25 an25 (smL (ents25 N) 0 50) [((.bool : K), false)] [⟨.sl (.sl (.int .i64)), a0⟩, ⟨.int .i64, a1⟩] = g N a0 a1 (fun r0 => some [.dat (K.bool) r0]) := by kernel_rfl
theorem ctxOk (N : Nat) : CtxOk P (C N) := ctxOk_of tysOk mixedOk trivial trivial
theorem calls (N : Nat) (a0 : List (List Int)) (a1 : Int) {rs : List Rs} (h : g N a0 a1 (fun r0 => some [.dat (K.bool) r0]) = some rs) : CallsTo P 25 [⟨.sl (.sl (.int .i64)), a0⟩, ⟨.int .i64, a1⟩] rs := evF_calls' (ctxOk N) (by rfl) (ents25_ok N) ((eq N a0 a1).trans h)
noncomputable def L0.l {α : Type} (N : Nat) (x3 : (List (List Int))) (x4 : Int) (x5 : Int) (k0 : (Bool → Option α)) : List (List Int) → Int → Bool → Option α
  | [], x7, x6 => k0 (x6)
  | x :: l, x7, x6 => cond (x6) (L0.l N x3 x4 x5 k0 l (x7 + 1) (true)) ((cond (decide (x5 < (↑(List.length x) : Int))) ((cond (decide (0 ≤ x5) && decide (x5 < (↑(List.length x) : Int))) (L0.l N x3 x4 x5 k0 l (x7 + 1) (List.getD x x5.toNat 0 != 0)) (none))) (L0.l N x3 x4 x5 k0 l (x7 + 1) (false))))
theorem L0.rng {α : Type} {N : Nat} (x3 : (List (List Int))) (x4 : Int) (x5 : Int) (hl : x3.length ≤ maxLen) (k0 : (Bool → Option α)) : ∀ (n j : Nat) (x6 : Bool), x3.length < n + j → j ≤ x3.length → L0.f N x3 x4 x5 n x6 (j : Int) k0 = L0.l N x3 x4 x5 k0 (x3.drop j) (j : Int) x6
  | 0, j, x6, h, hj => absurd h (by omega)
  | n + 1, j, x6, h, hj => by
    by_cases hlt : j < x3.length
    · have e1 : decide ((j : Int) < (x3.length : Int)) = true := decide_eq_true (Int.ofNat_lt.2 hlt)
      have e2 : decide ((0 : Int) ≤ (j : Int)) = true := decide_eq_true (Int.natCast_nonneg j)
      have e3 : ∀ z, x3.getD (Int.toNat (j : Int)) z = x3[j] := fun z => by rw [Int.toNat_natCast]; exact (List.getElem_eq_getD z).symm
      have e3' : ∀ z, x3.getD (0 + Int.toNat (j : Int)) z = x3[j] := fun z => by rw [Nat.zero_add]; exact e3 z
      have e4 : IntKind.i64.wrap ((j : Int) + 1) = (j : Int) + 1 := wrap_next hlt hl
      have ih : ∀ (x6 : Bool), L0.f N x3 x4 x5 n x6 ((j : Int) + 1) k0 = L0.l N x3 x4 x5 k0 (x3.drop (j + 1)) ((j : Int) + 1) x6 := fun x6 => L0.rng x3 x4 x5 hl k0 n (j + 1) x6 (by omega) (by omega)
      rw [List.drop_eq_getElem_cons hlt]
      first
        | (simp only [L0.f, L0.st, L0.l, e1, e2, e3, e3', e4, Bool.true_and, Bool.and_true, Bool.and_self, cond_true, ih]; done)
        | (simp only [L0.f, L0.st, L0.l, e1, e2, e3, e3', e4, Bool.true_and, Bool.and_true, Bool.and_self, cond_true, ih]; rfl)
    · have e1 : decide ((j : Int) < (x3.length : Int)) = false := decide_eq_false (fun hc => hlt (Int.ofNat_lt.1 hc))
      rw [List.drop_eq_nil_of_le (by omega)]
      simp only [L0.f, L0.st, L0.l, e1, cond_false]
end petrinetref31_Covered
-- IMPORT ⟪semiflow.Covered⟫
theorem petrinetref31_Covered.L0.law {α : Type} {N : Nat} (F : List (List Int)) (k i : Int) (hi : 0 ≤ i) (k0 : Bool → Option α) : ∀ (l : List (List Int)) (j : Int) (b : Bool),
    petrinetref31_Covered.L0.l N F k i k0 l j b = k0 (b || l.any (nz i))
  | [], j, b => by simp [petrinetref31_Covered.L0.l]
  | x :: l, j, b => by
    simp only [petrinetref31_Covered.L0.l, petrinetref31_Covered.L0.law F k i hi k0 l]
    cases b
    · simp only [cond_false, Bool.false_or, List.any_cons]
      have e0 : decide (0 ≤ i) = true := decide_eq_true hi
      unfold nz
      cases h : decide (i < (x.length : Int))
      · rfl
      · simp only [e0, Bool.and_self, cond_true, Bool.true_and]
        rfl
    · simp
theorem petrinetref31_Covered.L1.law {α : Type} {N : Nat} (hN : 18446744073709551616 ≤ N) (F : List (List Int)) (hF : F.length ≤ maxLen) (k : Nat) (hk : k < 9223372036854775808) (k0 : Bool → Option α) (k1 : Option α) : ∀ (n m : Nat), k < n + m → m ≤ k →
    petrinetref31_Covered.L1.f N F (k : Int) n (m : Int) k0 k1 = cond (((List.range k).drop m).all fun (i : Nat) => F.any fun v => nz i v) k1 (k0 false)
  | 0, m, h, hm => absurd h (by omega)
  | n + 1, m, h, hm => by
    rw [petrinetref31_Covered.L1.f, petrinetref31_Covered.L1.st]
    by_cases hl : m < k
    · rw [d_lt hl, cond_true]
      refine (petrinetref31_Covered.L0.rng (N := N) F (k : Int) (m : Int) hF _ N 0 false (by have := le_fuel hF hN; omega) (Nat.zero_le _)).trans ?_
      rw [petrinetref31_Covered.L0.law F k m (Int.natCast_nonneg m), List.drop_zero, covered_step F hl, wrap_i64 (inI_i64.2 (by omega)), ← succ_cast,
        petrinetref31_Covered.L1.law hN F hF k hk k0 k1 n (m + 1) (by omega) (by omega)]
      cases F.any (nz (m : Int)) <;> rfl
    · have : decide ((m : Int) < (k : Int)) = false := decide_eq_false (by omega)
      rw [this, cond_false, List.drop_eq_nil_of_le (by simp; omega)]
      rfl
theorem petrinetref31_Covered.law {α : Type} {N : Nat} (hN : 18446744073709551616 ≤ N) (a0 : List (List Int)) (a1 : Int) (w0 : K.wf (.sl (.sl (.int .i64))) a0) (w1 : K.wf (.int .i64) a1) (kr : (Bool → Option α)) : petrinetref31_Covered.g N a0 a1 kr = kr (petrinetref31_Covered.spec a0 a1) := by
  unfold petrinetref31_Covered.g petrinetref31_Covered.spec coveredS
  obtain ⟨h1, h2⟩ := inI_i64.1 w1
  by_cases h : 0 ≤ a1
  · obtain ⟨k, rfl⟩ := Int.eq_ofNat_of_zero_le h
    refine (petrinetref31_Covered.L1.law hN a0 w0.1 k (by omega) (fun x => kr x) (kr true) N 0 (by omega) (Nat.zero_le _)).trans ?_
    rw [List.drop_zero, Int.toNat_natCast]
    cases (List.range k).all fun (i : Nat) => a0.any fun v => nz i v <;> rfl
  · have e : a1.toNat = 0 := by omega
    rw [e]
    obtain ⟨M, rfl⟩ : ∃ M, N = M + 1 := ⟨N - 1, by omega⟩
    have e1 : decide (0 < a1) = false := decide_eq_false (by omega)
    simp only [petrinetref31_Covered.L1.f, petrinetref31_Covered.L1.st, e1, cond_false, List.range_zero, List.all_nil]

theorem petrinetref31_Covered.ok : FentOk P 25 petrinetref31_Covered.fent := fentOk_of (by kernel_rfl) fun ds hk => by
  obtain ⟨a0, l0, rfl, h0⟩ := ds_cons hk
  obtain ⟨a1, l1, rfl, h1⟩ := ds_cons h0
  obtain rfl := ds0 h1
  exact ⟨true, [.dat (.bool) (petrinetref31_Covered.spec a0 a1)], fun h hw => petrinetref31_Covered.calls 18446744073709551616 a0 a1 (petrinetref31_Covered.law (Nat.le_refl _) a0 a1 hw.1 hw.2.1 _), fun α k => rfl⟩
end Go.VI
set_option linter.unusedVariables false
set_option linter.unusedSimpArgs false
set_option maxRecDepth 100000
set_option maxHeartbeats 4000000
noncomputable section
namespace Go.VI
open Go Go.Proofs
namespace petrinetlaw31_SemiflowSums
noncomputable def an5 : Ann := []
noncomputable def ents5 {α : Type} (N : Nat) : List (SmE α) := []
noncomputable def C (N : Nat) : Ctx := ⟨tys, [(9, petrinetlaw31_short.fent), (10, petrinetlaw31_lives.fent), (21, semiflow_Sum.fent), (22, petrinetref31_Sum.fent), (23, petrinetref08_Vectors.fent), (24, semiflow_Covered.fent), (25, petrinetref31_Covered.fent)], [], N⟩
theorem ents5_ok {α : Type} (N : Nat) : AllP (EntOk (C N) Try.f5 an5 (ents5 (α := α) N)) (ents5 N) := trivial
noncomputable def g {α : Type} (N : Nat) (a0 : List (List Int)) (a1 : Int) (kr : (Bool → Option α)) : Option α :=
  cond (!petrinetlaw31_short.spec a0) (kr (petrinetlaw31_lives.spec)) (cond (semiflow_Sum.pre a0) (cond (petrinetref31_Sum.pre a0) (cond (petrinetref08_Vectors.spec (semiflow_Sum.spec a0).fst (petrinetref31_Sum.spec a0).fst) (cond ((semiflow_Sum.spec a0).snd == (petrinetref31_Sum.spec a0).snd) (cond (semiflow_Covered.spec a0 a1 == petrinetref31_Covered.spec a0 a1) (kr (petrinetlaw31_lives.spec)) (kr (false))) (kr (false))) (kr (false))) (none)) (none))
theorem eq (N : Nat) (a0 : List (List Int)) (a1 : Int) : evF (C N) 50 Try.f5 an5 (smL (ents5 N) 0 50) [((.bool : K), false)] [⟨.sl (.sl (.int .i64)), a0⟩, ⟨.int .i64, a1⟩] = g N a0 a1 (fun r0 => some [.dat (K.bool) r0]) := by kernel_rfl
theorem ctxOk (N : Nat) : CtxOk P (C N) := ctxOk_of tysOk mixedOk ⟨petrinetlaw31_short.ok, petrinetlaw31_lives.ok, semiflow_Sum.ok, petrinetref31_Sum.ok, petrinetref08_Vectors.ok, semiflow_Covered.ok, petrinetref31_Covered.ok, trivial⟩ trivial
theorem calls (N : Nat) (a0 : List (List Int)) (a1 : Int) {rs : List Rs} (h : g N a0 a1 (fun r0 => some [.dat (K.bool) r0]) = some rs) : CallsTo P 5 [⟨.sl (.sl (.int .i64)), a0⟩, ⟨.int .i64, a1⟩] rs := evF_calls' (ctxOk N) (by rfl) (ents5_ok N) ((eq N a0 a1).trans h)
end petrinetlaw31_SemiflowSums
theorem petrinetlaw31_SemiflowSums.law {α : Type} {N : Nat} (hN : 18446744073709551616 ≤ N) (a0 : List (List Int)) (a1 : Int) (w0 : K.wf (.sl (.sl (.int .i64))) a0) (w1 : K.wf (.int .i64) a1) (kr : (Bool → Option α)) : petrinetlaw31_SemiflowSums.g N a0 a1 kr = kr (petrinetlaw31_SemiflowSums.spec a0 a1) := by
  unfold petrinetlaw31_SemiflowSums.g petrinetlaw31_SemiflowSums.spec petrinetlaw31_lives.spec
  cases hs : petrinetlaw31_short.spec a0
  · rfl
  · have hp : semiflow_Sum.pre a0 = true := by
      unfold petrinetlaw31_short.spec at hs
      simp only [Bool.and_eq_true, decide_eq_true_eq, List.all_eq_true] at hs
      unfold semiflow_Sum.pre
      simp only [List.all_eq_true, decide_eq_true_eq]
      intro v hv
      have := hs.2 v hv
      omega
    have hq : petrinetref31_Sum.pre a0 = true := hp
    have e1 : petrinetref08_Vectors.spec (semiflow_Sum.spec a0).1 (petrinetref31_Sum.spec a0).1 = true := decide_eq_true rfl
    have e2 : ((semiflow_Sum.spec a0).2 == (petrinetref31_Sum.spec a0).2) = true := beq_self_eq_true _
    have e3 : (semiflow_Covered.spec a0 a1 == petrinetref31_Covered.spec a0 a1) = true := beq_self_eq_true _
    simp only [Bool.not_true, cond_false, hp, hq, e1, e2, e3, cond_true]

theorem petrinetlaw31_SemiflowSums.ok : FentOk P 5 petrinetlaw31_SemiflowSums.fent := fentOk_of (by kernel_rfl) fun ds hk => by
  obtain ⟨a0, l0, rfl, h0⟩ := ds_cons hk
  obtain ⟨a1, l1, rfl, h1⟩ := ds_cons h0
  obtain rfl := ds0 h1
  exact ⟨true, [.dat (.bool) (petrinetlaw31_SemiflowSums.spec a0 a1)], fun h hw => petrinetlaw31_SemiflowSums.calls 18446744073709551616 a0 a1 (petrinetlaw31_SemiflowSums.law (Nat.le_refl _) a0 a1 hw.1 hw.2.1 _), fun α k => rfl⟩
theorem semiflowSums_calls (x0 : K.T (.sl (.sl (.int .i64)))) (x1 : K.T (.int .i64)) (w0 : K.wf (.sl (.sl (.int .i64))) x0) (w1 : K.wf (.int .i64) x1) : CallsTo P 5 [⟨.sl (.sl (.int .i64)), x0⟩, ⟨.int .i64, x1⟩] [.dat .bool true] := petrinetlaw31_SemiflowSums.calls 18446744073709551616 x0 x1 (petrinetlaw31_SemiflowSums.law (Nat.le_refl _) x0 x1 w0 w1 _)
end Go.VI
