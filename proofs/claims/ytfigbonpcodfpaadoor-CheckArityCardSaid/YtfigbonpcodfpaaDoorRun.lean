/- The Go functions run, on the abstract machine, as the typed functions say. -/
import Derived.Test.YtfigbonpcodfpaaDoorAbsMach
import Derived.Test.YtfigbonpcodfpaaDoorPure
import Derived.KernelRfl
import Derived.Test.YtfigbonpcodfpaaDoorProg
set_option linter.unusedSimpArgs false
set_option linter.unusedVariables false
set_option linter.unusedSectionVars false
namespace Go.Abs
def env : Env where
  tys := [(1, ⟨false, 1⟩), (2, ⟨false, 1⟩), (3, ⟨false, 1⟩), (4, ⟨false, 1⟩), (5, ⟨false, 1⟩), (6, ⟨false, 1⟩), (7, ⟨true, 4⟩), (8, ⟨true, 4⟩), (9, ⟨false, 1⟩), (10, ⟨false, 1⟩), (11, ⟨false, 1⟩), (12, ⟨false, 1⟩), (13, ⟨true, 2⟩), (14, ⟨true, 2⟩), (15, ⟨false, 1⟩), (16, ⟨false, 1⟩), (17, ⟨false, 1⟩), (18, ⟨true, 1⟩), (19, ⟨true, 1⟩), (20, ⟨false, 1⟩), (21, ⟨false, 1⟩), (22, ⟨false, 1⟩), (23, ⟨false, 1⟩), (24, ⟨false, 1⟩), (25, ⟨false, 1⟩), (26, ⟨true, 7⟩), (27, ⟨true, 7⟩), (28, ⟨false, 1⟩), (29, ⟨false, 1⟩), (30, ⟨false, 1⟩), (31, ⟨false, 1⟩), (32, ⟨true, 2⟩), (33, ⟨true, 2⟩), (34, ⟨false, 1⟩), (35, ⟨false, 1⟩), (36, ⟨false, 1⟩), (38, ⟨false, 1⟩), (39, ⟨false, 1⟩), (40, ⟨false, 1⟩), (42, ⟨false, 1⟩), (43, ⟨false, 1⟩), (44, ⟨false, 1⟩), (45, ⟨false, 1⟩), (46, ⟨true, 4⟩), (47, ⟨true, 4⟩), (48, ⟨false, 1⟩), (49, ⟨false, 1⟩), (50, ⟨false, 1⟩), (51, ⟨false, 1⟩), (52, ⟨false, 1⟩), (53, ⟨true, 2⟩), (55, ⟨false, 1⟩), (56, ⟨false, 1⟩), (57, ⟨false, 1⟩), (58, ⟨false, 1⟩), (59, ⟨false, 1⟩), (60, ⟨false, 1⟩), (61, ⟨true, 2⟩), (62, ⟨true, 2⟩), (63, ⟨true, 7⟩), (64, ⟨true, 7⟩), (65, ⟨false, 1⟩), (67, ⟨false, 1⟩), (68, ⟨false, 1⟩), (69, ⟨false, 1⟩), (70, ⟨false, 1⟩), (71, ⟨true, 2⟩), (72, ⟨true, 2⟩), (73, ⟨false, 1⟩), (74, ⟨true, 3⟩), (75, ⟨true, 5⟩), (76, ⟨false, 1⟩), (77, ⟨false, 1⟩), (78, ⟨false, 1⟩), (80, ⟨false, 1⟩), (81, ⟨false, 1⟩), (82, ⟨false, 1⟩), (83, ⟨false, 1⟩), (84, ⟨false, 1⟩), (85, ⟨false, 1⟩), (87, ⟨false, 1⟩), (88, ⟨false, 1⟩), (89, ⟨true, 3⟩), (90, ⟨true, 3⟩), (91, ⟨false, 1⟩), (92, ⟨false, 1⟩), (93, ⟨false, 1⟩), (94, ⟨false, 1⟩), (95, ⟨false, 1⟩), (96, ⟨false, 1⟩), (97, ⟨false, 1⟩), (99, ⟨false, 1⟩), (100, ⟨false, 1⟩), (101, ⟨false, 1⟩), (102, ⟨false, 1⟩), (103, ⟨false, 1⟩), (104, ⟨false, 1⟩), (105, ⟨false, 1⟩), (106, ⟨false, 1⟩), (107, ⟨true, 4⟩), (108, ⟨true, 4⟩), (110, ⟨false, 1⟩), (111, ⟨false, 1⟩), (112, ⟨false, 1⟩), (113, ⟨false, 1⟩), (114, ⟨false, 1⟩), (115, ⟨true, 4⟩), (116, ⟨true, 4⟩), (117, ⟨true, 140⟩), (118, ⟨false, 1⟩), (119, ⟨false, 1⟩), (120, ⟨false, 1⟩), (122, ⟨false, 1⟩), (123, ⟨false, 1⟩), (124, ⟨false, 1⟩), (125, ⟨true, 256⟩), (126, ⟨true, 256⟩), (128, ⟨false, 1⟩), (129, ⟨false, 1⟩), (130, ⟨false, 1⟩), (131, ⟨false, 1⟩), (132, ⟨false, 1⟩), (133, ⟨false, 1⟩), (134, ⟨false, 1⟩), (136, ⟨false, 1⟩), (138, ⟨false, 1⟩), (139, ⟨false, 1⟩), (140, ⟨false, 1⟩), (141, ⟨false, 1⟩), (142, ⟨false, 1⟩), (143, ⟨false, 1⟩), (144, ⟨false, 1⟩), (145, ⟨true, 256⟩), (146, ⟨false, 1⟩), (147, ⟨true, 2⟩), (148, ⟨true, 2⟩), (149, ⟨true, 32⟩), (150, ⟨false, 1⟩), (151, ⟨false, 1⟩), (152, ⟨false, 1⟩), (153, ⟨false, 1⟩), (154, ⟨false, 1⟩), (155, ⟨true, 2⟩), (156, ⟨true, 2⟩), (157, ⟨true, 30⟩), (158, ⟨true, 10⟩), (159, ⟨false, 1⟩), (160, ⟨true, 128⟩), (161, ⟨false, 1⟩), (162, ⟨true, 2⟩), (163, ⟨true, 2⟩), (164, ⟨false, 1⟩), (165, ⟨false, 1⟩), (166, ⟨false, 1⟩), (167, ⟨false, 1⟩), (168, ⟨false, 1⟩), (169, ⟨false, 1⟩), (170, ⟨false, 1⟩), (171, ⟨true, 7⟩), (173, ⟨false, 1⟩), (174, ⟨false, 1⟩), (175, ⟨false, 1⟩), (176, ⟨false, 1⟩), (177, ⟨true, 3⟩), (178, ⟨true, 3⟩), (179, ⟨true, 5⟩), (180, ⟨true, 5⟩), (181, ⟨false, 1⟩), (182, ⟨false, 1⟩), (184, ⟨false, 1⟩), (185, ⟨false, 1⟩), (187, ⟨false, 1⟩), (188, ⟨false, 1⟩), (189, ⟨false, 1⟩), (190, ⟨false, 1⟩), (191, ⟨false, 1⟩), (192, ⟨false, 1⟩), (193, ⟨false, 1⟩), (194, ⟨true, 4⟩), (195, ⟨true, 4⟩), (196, ⟨true, 0⟩), (197, ⟨true, 0⟩), (198, ⟨true, 0⟩), (199, ⟨false, 1⟩), (200, ⟨false, 1⟩), (201, ⟨false, 1⟩), (202, ⟨false, 1⟩), (203, ⟨false, 1⟩), (204, ⟨true, 11⟩), (205, ⟨true, 11⟩)]
  fields := [(7, [(0, 2), (1, 3), (2, 4), (3, 6)]), (8, [(0, 2), (1, 3), (2, 4), (3, 6)]), (13, [(0, 9), (1, 12)]), (14, [(0, 9), (1, 12)]), (18, [(0, 17)]), (19, [(0, 17)]), (26, [(0, 22), (1, 3), (2, 23), (3, 24), (4, 2), (5, 9), (6, 25)]), (27, [(0, 22), (1, 3), (2, 23), (3, 24), (4, 2), (5, 9), (6, 25)]), (32, [(0, 31), (1, 3)]), (33, [(0, 31), (1, 3)]), (46, [(0, 45), (1, 9), (2, 9), (3, 3)]), (47, [(0, 45), (1, 9), (2, 9), (3, 3)]), (61, [(0, 59), (1, 60)]), (62, [(0, 59), (1, 60)]), (63, [(0, 9), (1, 3), (2, 40), (3, 62), (5, 3), (6, 3)]), (64, [(0, 9), (1, 3), (2, 40), (3, 62), (5, 3), (6, 3)]), (71, [(0, 55), (1, 70)]), (72, [(0, 55), (1, 70)]), (89, [(0, 85), (1, 3), (2, 4)]), (90, [(0, 85), (1, 3), (2, 4)]), (107, [(0, 93), (1, 9), (2, 2), (3, 3)]), (108, [(0, 93), (1, 9), (2, 2), (3, 3)]), (115, [(0, 3), (1, 3), (2, 5), (3, 9)]), (116, [(0, 3), (1, 3), (2, 5), (3, 9)]), (147, [(0, 5), (1, 5)]), (148, [(0, 5), (1, 5)]), (155, [(0, 21), (1, 21)]), (156, [(0, 21), (1, 21)]), (162, [(0, 159), (1, 159)]), (163, [(0, 159), (1, 159)]), (179, [(0, 174), (1, 174), (2, 178)]), (180, [(0, 174), (1, 174), (2, 178)]), (194, [(0, 17), (1, 17), (2, 17), (3, 9)]), (195, [(0, 17), (1, 17), (2, 17), (3, 9)]), (197, [(0, 196)]), (198, [(0, 196)]), (204, [(0, 12), (1, 12), (2, 174), (3, 199), (4, 5), (5, 5), (6, 200), (7, 201), (8, 150), (9, 202), (10, 203)]), (205, [(0, 12), (1, 12), (2, 174), (3, 199), (4, 5), (5, 5), (6, 200), (7, 201), (8, 150), (9, 202), (10, 203)])]
  arrs := [(53, 2, 3), (74, 3, 70), (75, 5, 9), (117, 35, 116), (125, 256, 4), (126, 256, 4), (145, 256, 5), (149, 16, 148), (157, 15, 156), (158, 5, 156), (160, 128, 159), (171, 7, 9), (177, 3, 21), (178, 3, 21), (196, 0, 16)]
  zeros := [(2, [.int .i64 0]), (3, [.int .i64 0]), (4, [.bool false]), (5, [.int .u8 0]), (6, [.int .u8 0]), (7, [.int .i64 0, .int .i64 0, .bool false, .int .u8 0]), (8, [.int .i64 0, .int .i64 0, .bool false, .int .u8 0]), (9, [.str []]), (10, [.str []]), (11, [.str []]), (12, [.int .u64 0]), (13, [.str [], .int .u64 0]), (14, [.str [], .int .u64 0]), (15, [.nilp]), (16, [.nilp]), (17, [.nilp]), (18, [.nilp]), (19, [.nilp]), (21, [.int .i32 0]), (22, [.int .u8 0]), (23, [.int .u8 0]), (24, [.int .u8 0]), (25, [.slice (Rows.empty .exprs) true]), (26, [.int .u8 0, .int .i64 0, .int .u8 0, .int .u8 0, .int .i64 0, .str [], .slice (Rows.empty .exprs) true]), (27, [.int .u8 0, .int .i64 0, .int .u8 0, .int .u8 0, .int .i64 0, .str [], .slice (Rows.empty .exprs) true]), (31, [.int .i64 0]), (32, [.int .i64 0, .int .i64 0]), (33, [.int .i64 0, .int .i64 0]), (40, [.slice (Rows.empty .nodes) true]), (45, [.int .u8 0]), (46, [.int .u8 0, .str [], .str [], .int .i64 0]), (47, [.int .u8 0, .str [], .str [], .int .i64 0]), (52, [.int .i64 0]), (53, [.int .i64 0, .int .i64 0]), (58, [.nilp]), (59, [.nilp]), (60, [.slice (Rows.empty .bytes) true]), (61, [.nilp, .slice (Rows.empty .bytes) true]), (62, [.nilp, .slice (Rows.empty .bytes) true]), (63, [.str [], .int .i64 0, .slice (Rows.empty .nodes) true, .nilp, .slice (Rows.empty .bytes) true, .int .i64 0, .int .i64 0]), (64, [.str [], .int .i64 0, .slice (Rows.empty .nodes) true, .nilp, .slice (Rows.empty .bytes) true, .int .i64 0, .int .i64 0]), (69, [.nilp]), (70, [.slice (Rows.empty .strs) true]), (71, [.undef, .slice (Rows.empty .strs) true]), (72, [.undef, .slice (Rows.empty .strs) true]), (74, [.slice (Rows.empty .strs) true, .slice (Rows.empty .strs) true, .slice (Rows.empty .strs) true]), (75, [.str [], .str [], .str [], .str [], .str []]), (85, [.slice (Rows.empty .toks) true]), (88, [.nilp]), (89, [.slice (Rows.empty .toks) true, .int .i64 0, .bool false]), (90, [.slice (Rows.empty .toks) true, .int .i64 0, .bool false]), (93, [.int .u8 0]), (100, [.int .i64 0]), (107, [.int .u8 0, .str [], .int .i64 0, .int .i64 0]), (108, [.int .u8 0, .str [], .int .i64 0, .int .i64 0]), (115, [.int .i64 0, .int .i64 0, .int .u8 0, .str []]), (116, [.int .i64 0, .int .i64 0, .int .u8 0, .str []]), (130, [.nilp]), (146, [.int .u64 0]), (147, [.int .u8 0, .int .u8 0]), (148, [.int .u8 0, .int .u8 0]), (149, [.int .u8 0, .int .u8 0, .int .u8 0, .int .u8 0, .int .u8 0, .int .u8 0, .int .u8 0, .int .u8 0, .int .u8 0, .int .u8 0, .int .u8 0, .int .u8 0, .int .u8 0, .int .u8 0, .int .u8 0, .int .u8 0, .int .u8 0, .int .u8 0, .int .u8 0, .int .u8 0, .int .u8 0, .int .u8 0, .int .u8 0, .int .u8 0, .int .u8 0, .int .u8 0, .int .u8 0, .int .u8 0, .int .u8 0, .int .u8 0, .int .u8 0, .int .u8 0]), (150, [.nilp]), (154, [.slice (Rows.empty (.tab [.int .i32, .int .i32])) true]), (155, [.int .i32 0, .int .i32 0]), (156, [.int .i32 0, .int .i32 0]), (157, [.int .i32 0, .int .i32 0, .int .i32 0, .int .i32 0, .int .i32 0, .int .i32 0, .int .i32 0, .int .i32 0, .int .i32 0, .int .i32 0, .int .i32 0, .int .i32 0, .int .i32 0, .int .i32 0, .int .i32 0, .int .i32 0, .int .i32 0, .int .i32 0, .int .i32 0, .int .i32 0, .int .i32 0, .int .i32 0, .int .i32 0, .int .i32 0, .int .i32 0, .int .i32 0, .int .i32 0, .int .i32 0, .int .i32 0, .int .i32 0]), (158, [.int .i32 0, .int .i32 0, .int .i32 0, .int .i32 0, .int .i32 0, .int .i32 0, .int .i32 0, .int .i32 0, .int .i32 0, .int .i32 0]), (159, [.int .u16 0]), (161, [.slice (Rows.empty (.tab [.int .u16, .int .u16])) true]), (162, [.int .u16 0, .int .u16 0]), (163, [.int .u16 0, .int .u16 0]), (164, [.nilp]), (169, [.int .u64 0]), (171, [.str [], .str [], .str [], .str [], .str [], .str [], .str []]), (174, [.int .u32 0]), (177, [.int .i32 0, .int .i32 0, .int .i32 0]), (178, [.int .i32 0, .int .i32 0, .int .i32 0]), (179, [.int .u32 0, .int .u32 0, .int .i32 0, .int .i32 0, .int .i32 0]), (180, [.int .u32 0, .int .u32 0, .int .i32 0, .int .i32 0, .int .i32 0]), (193, [.nilp]), (194, [.nilp, .nilp, .nilp, .str []]), (195, [.nilp, .nilp, .nilp, .str []]), (196, []), (197, []), (198, []), (199, [.int .u8 0]), (200, [.int .u8 0]), (202, [.int .i32 0]), (203, [.int .i32 0]), (204, [.int .u64 0, .int .u64 0, .int .u32 0, .int .u8 0, .int .u8 0, .int .u8 0, .int .u8 0, .undef, .nilp, .int .i32 0, .int .i32 0]), (205, [.int .u64 0, .int .u64 0, .int .u32 0, .int .u8 0, .int .u8 0, .int .u8 0, .int .u8 0, .undef, .nilp, .int .i32 0, .int .i32 0])]
  elems := [(25, 27, .exprs), (40, 47, .nodes), (60, 5, .bytes), (70, 9, .strs), (85, 108, .toks), (154, 156, (.tab [.int .i32, .int .i32])), (161, 163, (.tab [.int .u16, .int .u16]))]
  globs := [(0, .tab [.int .i64, .int .i64, .int .u8, .str] [[.int 0, .int 0, .int 0, .str []], [.int 0, .int (-1), .int 0, .str []], [.int 0, .int 0, .int 0, .str []], [.int 0, .int 0, .int 115, .str []], [.int 0, .int 0, .int 110, .str []], [.int 0, .int 0, .int 0, .str []], [.int 2, .int 2, .int 0, .str []], [.int 2, .int 2, .int 0, .str []], [.int 2, .int 2, .int 119, .str [61, 32, 33, 61, 32, 60, 32, 60, 61, 32, 62, 32, 62, 61]], [.int 2, .int 2, .int 119, .str [43, 32, 45, 32, 42, 32, 100, 105, 118, 32, 109, 111, 100]], [.int 1, .int 1, .int 0, .str []], [.int 2, .int 2, .int 0, .str []], [.int 0, .int (-1), .int 99, .str []], [.int 3, .int 3, .int 0, .str []], [.int 2, .int 2, .int 110, .str []], [.int 2, .int 2, .int 110, .str []], [.int 2, .int 2, .int 0, .str []], [.int 3, .int 3, .int 110, .str []], [.int 0, .int 0, .int 0, .str []], [.int 2, .int 2, .int 0, .str []], [.int 0, .int (-1), .int 116, .str []], [.int 2, .int (-1), .int 0, .str []], [.int 0, .int 0, .int 115, .str []], [.int 2, .int 2, .int 110, .str []], [.int 2, .int 2, .int 110, .str []], [.int 0, .int 0, .int 0, .str []], [.int 0, .int 0, .int 0, .str []], [.int 0, .int 0, .int 0, .str []], [.int 0, .int 0, .int 0, .str []], [.int 0, .int 0, .int 0, .str []], [.int 2, .int 2, .int 119, .str [105, 110, 116, 111, 32, 102, 105, 114, 115, 116, 32, 108, 97, 115, 116, 32, 98, 101, 102, 111, 114, 101, 32, 97, 102, 116, 101, 114]], [.int 1, .int 1, .int 0, .str []], [.int 2, .int 2, .int 0, .str []], [.int 2, .int 2, .int 0, .str []], [.int 2, .int 2, .int 0, .str []]]), (2, .tab [.int .u8, .int .u8] [[.int 128, .int 191], [.int 160, .int 191], [.int 128, .int 159], [.int 144, .int 191], [.int 128, .int 143], [.int 0, .int 0], [.int 0, .int 0], [.int 0, .int 0], [.int 0, .int 0], [.int 0, .int 0], [.int 0, .int 0], [.int 0, .int 0], [.int 0, .int 0], [.int 0, .int 0], [.int 0, .int 0], [.int 0, .int 0]]), (3, .tab [.int .i32, .int .i32] [[.int 65, .int 90], [.int 95, .int 95], [.int 97, .int 122], [.int 192, .int 214], [.int 216, .int 246], [.int 248, .int 767], [.int 880, .int 893], [.int 895, .int 8191], [.int 8204, .int 8205], [.int 8304, .int 8591], [.int 11264, .int 12271], [.int 12289, .int 55295], [.int 63744, .int 64975], [.int 65008, .int 65533], [.int 65536, .int 983039]]), (4, .tab [.int .i32, .int .i32] [[.int 45, .int 46], [.int 48, .int 57], [.int 183, .int 183], [.int 768, .int 879], [.int 8255, .int 8256]]), (8, .strs [[], [110, 111, 100, 101], [], [], [116, 101, 120, 116], [99, 111, 109, 109, 101, 110, 116], [112, 114, 111, 99, 101, 115, 115, 105, 110, 103, 45, 105, 110, 115, 116, 114, 117, 99, 116, 105, 111, 110]]), (1, .bytes [240, 240, 240, 240, 240, 240, 240, 240, 240, 240, 240, 240, 240, 240, 240, 240, 240, 240, 240, 240, 240, 240, 240, 240, 240, 240, 240, 240, 240, 240, 240, 240, 240, 240, 240, 240, 240, 240, 240, 240, 240, 240, 240, 240, 240, 240, 240, 240, 240, 240, 240, 240, 240, 240, 240, 240, 240, 240, 240, 240, 240, 240, 240, 240, 240, 240, 240, 240, 240, 240, 240, 240, 240, 240, 240, 240, 240, 240, 240, 240, 240, 240, 240, 240, 240, 240, 240, 240, 240, 240, 240, 240, 240, 240, 240, 240, 240, 240, 240, 240, 240, 240, 240, 240, 240, 240, 240, 240, 240, 240, 240, 240, 240, 240, 240, 240, 240, 240, 240, 240, 240, 240, 240, 240, 240, 240, 240, 240, 241, 241, 241, 241, 241, 241, 241, 241, 241, 241, 241, 241, 241, 241, 241, 241, 241, 241, 241, 241, 241, 241, 241, 241, 241, 241, 241, 241, 241, 241, 241, 241, 241, 241, 241, 241, 241, 241, 241, 241, 241, 241, 241, 241, 241, 241, 241, 241, 241, 241, 241, 241, 241, 241, 241, 241, 241, 241, 241, 241, 241, 241, 241, 241, 241, 241, 2, 2, 2, 2, 2, 2, 2, 2, 2, 2, 2, 2, 2, 2, 2, 2, 2, 2, 2, 2, 2, 2, 2, 2, 2, 2, 2, 2, 2, 2, 19, 3, 3, 3, 3, 3, 3, 3, 3, 3, 3, 3, 3, 35, 3, 3, 52, 4, 4, 4, 68, 241, 241, 241, 241, 241, 241, 241, 241, 241, 241, 241])]
  eqs := [(32, [.int .i64, .int .i64]), (33, [.int .i64, .int .i64]), (46, [.int .u8, .str, .str, .int .i64]), (47, [.int .u8, .str, .str, .int .i64]), (107, [.int .u8, .str, .int .i64, .int .i64]), (108, [.int .u8, .str, .int .i64, .int .i64]), (115, [.int .i64, .int .i64, .int .u8, .str]), (116, [.int .i64, .int .i64, .int .u8, .str]), (155, [.int .i32, .int .i32]), (156, [.int .i32, .int .i32])]
  kinds := [(4, 0), (9, 1), (10, 1), (11, 1), (15, 3), (16, 3), (17, 3), (58, 3), (59, 3), (69, 3), (88, 3), (130, 3), (150, 3), (164, 3), (193, 3)]
  maps := [(55, 53, [.int .i64, .int .i64])]
  ints := [(2, .i64), (3, .i64), (5, .u8), (6, .u8), (12, .u64), (21, .i32), (22, .u8), (23, .u8), (24, .u8), (31, .i64), (45, .u8), (52, .i64), (93, .u8), (100, .i64), (146, .u64), (159, .u16), (169, .u64), (174, .u32), (199, .u8), (200, .u8), (202, .i32), (203, .i32)]
  vars := [9]

end Go.Abs

/- The runs of the Go functions are the typed functions: printed by gen.py. -/
set_option maxRecDepth 100000
set_option linter.unusedVariables false
set_option linter.unusedSimpArgs false
namespace Go.Abs
open Go Go.Proofs

noncomputable def w24_CheckOne_en (C : Cal) : Entry := fun us st => match us, st with
  | [.agg [.int .u8 x0_k, .int .i64 x0_p, .int .u8 x0_a, .int .u8 x0_t, .int .i64 x0_n, .str x0_s, .slice (.exprs x0_l) false]], [] => some (.plain (C.w24_CheckOne (XE.mk x0_k x0_p x0_a x0_t x0_n x0_s x0_l)) fun r => (.bool r, []))
  | _, _ => none

noncomputable def w24_CheckWithin_en (C : Cal) : Entry := fun us st => match us, st with
  | [.agg [.int .u8 x0_k, .int .i64 x0_p, .int .u8 x0_a, .int .u8 x0_t, .int .i64 x0_n, .str x0_s, .slice (.exprs x0_l) false], .str x1], [] => some (.plain (C.w24_CheckWithin (XE.mk x0_k x0_p x0_a x0_t x0_n x0_s x0_l) x1) fun r => (.bool r, []))
  | _, _ => none

noncomputable def w24_CheckArity_en (C : Cal) : Entry := fun us st => match us, st with
  | [.str x0], [] => some (.plain (C.w24_CheckArity x0) fun r => (.bool r, []))
  | _, _ => none

noncomputable def w24_awake_en (C : Cal) : Entry := fun us st => match us, st with
  | [], [] => some (.plain (C.w24_awake ) fun r => (.bool r, []))
  | _, _ => none

noncomputable def w24_size_en (C : Cal) : Entry := fun us st => match us, st with
  | [.agg [.int .u8 x0_k, .int .i64 x0_p, .int .u8 x0_a, .int .u8 x0_t, .int .i64 x0_n, .str x0_s, .slice (.exprs x0_l) false], .int .i64 x1], [] => some (.plain (C.w24_size (XE.mk x0_k x0_p x0_a x0_t x0_n x0_s x0_l) x1) fun r => (.int .i64 r, []))
  | _, _ => none

noncomputable def r23_Right_en (C : Cal) : Entry := fun us st => match us, st with
  | [.agg [.int .u8 x0_k, .int .i64 x0_p, .int .u8 x0_a, .int .u8 x0_t, .int .i64 x0_n, .str x0_s, .slice (.exprs x0_l) false]], [] => some (.plain (C.r23_Right (XE.mk x0_k x0_p x0_a x0_t x0_n x0_s x0_l)) fun r => (.bool r, []))
  | _, _ => none

noncomputable def check_Query_en (C : Cal) : Entry := fun us st => match us, st with
  | [.agg [.int .u8 x0_k, .int .i64 x0_p, .int .u8 x0_a, .int .u8 x0_t, .int .i64 x0_n, .str x0_s, .slice (.exprs x0_l) false]], [] => some (.plain (C.check_Query (XE.mk x0_k x0_p x0_a x0_t x0_n x0_s x0_l)) fun r => (.agg [.int .i64 r.1, .int .i64 r.2], []))
  | _, _ => none

noncomputable def check_Update_en (C : Cal) : Entry := fun us st => match us, st with
  | [.agg [.int .u8 x0_k, .int .i64 x0_p, .int .u8 x0_a, .int .u8 x0_t, .int .i64 x0_n, .str x0_s, .slice (.exprs x0_l) false]], [] => some (.plain (C.check_Update (XE.mk x0_k x0_p x0_a x0_t x0_n x0_s x0_l)) fun r => (.agg [.int .i64 r.1, .int .i64 r.2], []))
  | _, _ => none

noncomputable def w24_empties_en (C : Cal) : Entry := fun us st => match us, st with
  | [.agg [.int .u8 x0_k, .int .i64 x0_p, .int .u8 x0_a, .int .u8 x0_t, .int .i64 x0_n, .str x0_s, .slice (.exprs x0_l) false]], [] => some (.plain (C.w24_empties (XE.mk x0_k x0_p x0_a x0_t x0_n x0_s x0_l)) fun r => (.bool r, []))
  | _, _ => none

noncomputable def w24_stands_en (C : Cal) : Entry := fun us st => match us, st with
  | [.agg [.int .u8 x0_k, .int .i64 x0_p, .int .u8 x0_a, .int .u8 x0_t, .int .i64 x0_n, .str x0_s, .slice (.exprs x0_l) false], .int .i64 x1], [] => some (.plain (C.w24_stands (XE.mk x0_k x0_p x0_a x0_t x0_n x0_s x0_l) x1) fun r => (.bool r, []))
  | _, _ => none

noncomputable def check_Arity_en (C : Cal) : Entry := fun us st => match us, st with
  | [.str x0], [] => some (.plain (C.check_Arity x0) fun r => (.tup [.int .i64 r.1, .int .i64 r.2.1, .bool r.2.2], []))
  | _, _ => none

noncomputable def r24_Arity_en (C : Cal) : Entry := fun us st => match us, st with
  | [.str x0], [] => some (.plain (C.r24_Arity x0) fun r => (.tup [.int .i64 r.1, .int .i64 r.2.1, .bool r.2.2], []))
  | _, _ => none

noncomputable def w24_of_en (C : Cal) : Entry := fun us st => match us, st with
  | [.str x0], [] => some (.plain (C.w24_of x0) fun r => (.agg r.cells, []))
  | _, _ => none

noncomputable def r23_Deep_en (C : Cal) : Entry := fun us st => match us, st with
  | [.agg [.int .u8 x0_k, .int .i64 x0_p, .int .u8 x0_a, .int .u8 x0_t, .int .i64 x0_n, .str x0_s, .slice (.exprs x0_l) false]], [] => some (.plain (C.r23_Deep (XE.mk x0_k x0_p x0_a x0_t x0_n x0_s x0_l)) fun r => (.int .i64 r, []))
  | _, _ => none

noncomputable def r23_all_en (C : Cal) : Entry := fun us st => match us, st with
  | [.agg [.int .u8 x0_k, .int .i64 x0_p, .int .u8 x0_a, .int .u8 x0_t, .int .i64 x0_n, .str x0_s, .slice (.exprs x0_l) false], .bool x1], [] => some (.plain (C.r23_all (XE.mk x0_k x0_p x0_a x0_t x0_n x0_s x0_l) x1) fun r => (.bool r, []))
  | _, _ => none

noncomputable def check_all_en (C : Cal) : Entry := fun us st => match us, st with
  | [.agg [.int .u8 x0_k, .int .i64 x0_p, .int .u8 x0_a, .int .u8 x0_t, .int .i64 x0_n, .str x0_s, .slice (.exprs x0_l) false], .int .i64 x1], [] => some (.plain (C.check_all (XE.mk x0_k x0_p x0_a x0_t x0_n x0_s x0_l) x1) fun r => (.agg [.int .i64 r.1, .int .i64 r.2], []))
  | _, _ => none

noncomputable def check_many_en (C : Cal) : Entry := fun us st => match us, st with
  | [], [] => some (.plain (C.check_many ) fun r => (.map 500000, [(500000, .map [.int .i64, .int .i64] r)]))
  | _, _ => none

noncomputable def r23_Parse_en (C : Cal) : Entry := fun us st => match us, st with
  | [.str x0], [] => some (.plain (C.r23_Parse x0) fun r => (.tup [.agg r.1.cells, .agg [.int .i64 r.2.1, .int .i64 r.2.2]], []))
  | _, _ => none

noncomputable def r23_one_en (C : Cal) : Entry := fun us st => match us, st with
  | [.agg [.int .u8 x0_k, .int .i64 x0_p, .int .u8 x0_a, .int .u8 x0_t, .int .i64 x0_n, .str x0_s, .slice (.exprs x0_l) false], .bool x1], [] => some (.plain (C.r23_one (XE.mk x0_k x0_p x0_a x0_t x0_n x0_s x0_l) x1) fun r => (.bool r, []))
  | _, _ => none

noncomputable def r23_holds_en (C : Cal) : Entry := fun us st => match us, st with
  | [.int .u8 x0], [] => some (.plain (C.r23_holds x0) fun r => (.bool r, []))
  | _, _ => none

noncomputable def xpath_Right_en (C : Cal) : Entry := fun us st => match us, st with
  | [.agg [.int .u8 x0_k, .int .i64 x0_p, .int .u8 x0_a, .int .u8 x0_t, .int .i64 x0_n, .str x0_s, .slice (.exprs x0_l) false]], [] => some (.plain (C.xpath_Right (XE.mk x0_k x0_p x0_a x0_t x0_n x0_s x0_l)) fun r => (.bool r, []))
  | _, _ => none

noncomputable def check_checker_check_en (C : Cal) : Entry := fun us st => match us, st with
  | [.ptr 1000 0, .agg [.int .u8 x1_k, .int .i64 x1_p, .int .u8 x1_a, .int .u8 x1_t, .int .i64 x1_n, .str x1_s, .slice (.exprs x1_l) false], .int .i64 x2, .bool x3], [(1000, .cells [.map 1001, .gsl 1002]), (1001, .map [.int .i64, .int .i64] x0_functions), (1002, .gbuf (.strs x0_bound) true)] => some (.plain (C.check_checker_check (XE.mk x1_k x1_p x1_a x1_t x1_n x1_s x1_l) x2 x3 x0_functions x0_bound) fun r => (.agg [.int .i64 r.1, .int .i64 r.2.1], [(1000, .cells [.map 1001, .gsl 500000]), (1001, .map [.int .i64, .int .i64] x0_functions), (500000, .gbuf (.strs r.2.2) true)]))
  | _, _ => none

noncomputable def r22_Scan_en (C : Cal) : Entry := fun us st => match us, st with
  | [.str x0], [] => some (.plain (C.r22_Scan x0) fun r => (.tup [.slice (.toks r.1) false, .agg [.int .i64 r.2.1, .int .i64 r.2.2]], []))
  | _, _ => none

noncomputable def r23_reader_expr_en (C : Cal) : Entry := fun us st => match us, st with
  | [.ptr 1000 0], [(1000, .cells [.slice (.toks x0_l) false, .int .i64 x0_i, .bool x0_bad])] => some (.plain (C.r23_reader_expr x0_l x0_i x0_bad) fun r => (.agg r.1.cells, [(1000, .cells [.slice (.toks x0_l) false, .int .i64 r.2.1, .bool r.2.2])]))
  | _, _ => none

noncomputable def r23_reader_kind_en (C : Cal) : Entry := fun us st => match us, st with
  | [.ptr 1000 0, .int .i64 x1, .int .u8 x2], [(1000, .cells [.slice (.toks x0_l) false, .int .i64 x0_i, .bool x0_bad])] => some (.plain (C.r23_reader_kind x1 x2 x0_l x0_i x0_bad) fun r => (.bool r, [(1000, .cells [.slice (.toks x0_l) false, .int .i64 x0_i, .bool x0_bad])]))
  | _, _ => none

noncomputable def r23_reader_here_en (C : Cal) : Entry := fun us st => match us, st with
  | [.ptr 1000 0], [(1000, .cells [.slice (.toks x0_l) false, .int .i64 x0_i, .bool x0_bad])] => some (.plain (C.r23_reader_here x0_l x0_i x0_bad) fun r => (.int .i64 r, [(1000, .cells [.slice (.toks x0_l) false, .int .i64 x0_i, .bool x0_bad])]))
  | _, _ => none

noncomputable def r23_many_en (C : Cal) : Entry := fun us st => match us, st with
  | [.int .u8 x0, .int .i64 x1], [] => some (.plain (C.r23_many x0 x1) fun r => (.bool r, []))
  | _, _ => none

noncomputable def r23_text_en (C : Cal) : Entry := fun us st => match us, st with
  | [.agg [.int .u8 x0_k, .int .i64 x0_p, .int .u8 x0_a, .int .u8 x0_t, .int .i64 x0_n, .str x0_s, .slice (.exprs x0_l) false]], [] => some (.plain (C.r23_text (XE.mk x0_k x0_p x0_a x0_t x0_n x0_s x0_l)) fun r => (.bool r, []))
  | _, _ => none

noncomputable def xpath_deep_en (C : Cal) : Entry := fun us st => match us, st with
  | [.agg [.int .u8 x0_k, .int .i64 x0_p, .int .u8 x0_a, .int .u8 x0_t, .int .i64 x0_n, .str x0_s, .slice (.exprs x0_l) false]], [] => some (.plain (C.xpath_deep (XE.mk x0_k x0_p x0_a x0_t x0_n x0_s x0_l)) fun r => (.int .i64 r, []))
  | _, _ => none

noncomputable def xpath_right_en (C : Cal) : Entry := fun us st => match us, st with
  | [.agg [.int .u8 x0_k, .int .i64 x0_p, .int .u8 x0_a, .int .u8 x0_t, .int .i64 x0_n, .str x0_s, .slice (.exprs x0_l) false], .bool x1], [] => some (.plain (C.xpath_right (XE.mk x0_k x0_p x0_a x0_t x0_n x0_s x0_l) x1) fun r => (.bool r, []))
  | _, _ => none

noncomputable def check_checker_own_en (C : Cal) : Entry := fun us st => match us, st with
  | [.ptr 1000 0, .agg [.int .u8 x1_k, .int .i64 x1_p, .int .u8 x1_a, .int .u8 x1_t, .int .i64 x1_n, .str x1_s, .slice (.exprs x1_l) false], .int .i64 x2, .bool x3], [(1000, .cells [.map 1001, .gsl 1002]), (1001, .map [.int .i64, .int .i64] x0_functions), (1002, .gbuf (.strs x0_bound) true)] => some (.plain (C.check_checker_own (XE.mk x1_k x1_p x1_a x1_t x1_n x1_s x1_l) x2 x3 x0_functions x0_bound) fun r => (.int .i64 r, [(1000, .cells [.map 1001, .gsl 500000]), (1001, .map [.int .i64, .int .i64] x0_functions), (500000, .gbuf (.strs x0_bound) true)]))
  | _, _ => none

noncomputable def check_kid_en (C : Cal) : Entry := fun us st => match us, st with
  | [.agg [.int .u8 x0_k, .int .i64 x0_p, .int .u8 x0_a, .int .u8 x0_t, .int .i64 x0_n, .str x0_s, .slice (.exprs x0_l) false], .int .i64 x1, .int .i64 x2], [] => some (.plain (C.check_kid (XE.mk x0_k x0_p x0_a x0_t x0_n x0_s x0_l) x1 x2) fun r => (.int .i64 r, []))
  | _, _ => none

noncomputable def chars_Char_en (C : Cal) : Entry := fun us st => match us, st with
  | [.int .i32 x0], [] => some (.plain (C.chars_Char x0) fun r => (.bool r, []))
  | _, _ => none

noncomputable def r05_Next_en (C : Cal) : Entry := fun us st => match us, st with
  | [.str x0, .int .i64 x1], [] => some (.plain (C.r05_Next x0 x1) fun r => (.tup [.int .i32 r.1, .int .i64 r.2], []))
  | _, _ => none

noncomputable def r05_Char_en (C : Cal) : Entry := fun us st => match us, st with
  | [.int .i32 x0], [] => some (.plain (C.r05_Char x0) fun r => (.bool r, []))
  | _, _ => none

noncomputable def r05_Blank_en (C : Cal) : Entry := fun us st => match us, st with
  | [.str x0], [] => some (.plain (C.r05_Blank x0) fun r => (.bool r, []))
  | _, _ => none

noncomputable def r22_comment_en (C : Cal) : Entry := fun us st => match us, st with
  | [.str x0, .int .i64 x1], [] => some (.plain (C.r22_comment x0 x1) fun r => (.int .i64 r, []))
  | _, _ => none

noncomputable def r22_token_en (C : Cal) : Entry := fun us st => match us, st with
  | [.str x0, .int .i64 x1], [] => some (.plain (C.r22_token x0 x1) fun r => (.tup [.agg r.1.cells, .int .i64 r.2.1, .int .i64 r.2.2], []))
  | _, _ => none

noncomputable def r23_reader_single_en (C : Cal) : Entry := fun us st => match us, st with
  | [.ptr 1000 0], [(1000, .cells [.slice (.toks x0_l) false, .int .i64 x0_i, .bool x0_bad])] => some (.plain (C.r23_reader_single x0_l x0_i x0_bad) fun r => (.agg r.1.cells, [(1000, .cells [.slice (.toks x0_l) false, .int .i64 r.2.1, .bool r.2.2])]))
  | _, _ => none

noncomputable def r23_reader_sign_en (C : Cal) : Entry := fun us st => match us, st with
  | [.ptr 1000 0, .int .i64 x1, .str x2], [(1000, .cells [.slice (.toks x0_l) false, .int .i64 x0_i, .bool x0_bad])] => some (.plain (C.r23_reader_sign x1 x2 x0_l x0_i x0_bad) fun r => (.bool r, [(1000, .cells [.slice (.toks x0_l) false, .int .i64 x0_i, .bool x0_bad])]))
  | _, _ => none

noncomputable def r23_reader_is_en (C : Cal) : Entry := fun us st => match us, st with
  | [.ptr 1000 0, .str x1], [(1000, .cells [.slice (.toks x0_l) false, .int .i64 x0_i, .bool x0_bad])] => some (.plain (C.r23_reader_is x1 x0_l x0_i x0_bad) fun r => (.bool r.1, [(1000, .cells [.slice (.toks x0_l) false, .int .i64 r.2, .bool x0_bad])]))
  | _, _ => none

noncomputable def r23_reader_tok_en (C : Cal) : Entry := fun us st => match us, st with
  | [.ptr 1000 0, .int .i64 x1], [(1000, .cells [.slice (.toks x0_l) false, .int .i64 x0_i, .bool x0_bad])] => some (.plain (C.r23_reader_tok x1 x0_l x0_i x0_bad) fun r => (.agg r.cells, [(1000, .cells [.slice (.toks x0_l) false, .int .i64 x0_i, .bool x0_bad])]))
  | _, _ => none

noncomputable def r23_kids_en (C : Cal) : Entry := fun us st => match us, st with
  | [.int .u8 x0], [] => some (.plain (C.r23_kids x0) fun r => (.int .i64 r, []))
  | _, _ => none

noncomputable def r05_Texts_en (C : Cal) : Entry := fun us st => match us, st with
  | [.str x0], [] => some (.plain (C.r05_Texts x0) fun r => (.bool r, []))
  | _, _ => none

noncomputable def r05_Name_en (C : Cal) : Entry := fun us st => match us, st with
  | [.str x0], [] => some (.plain (C.r05_Name x0) fun r => (.bool r, []))
  | _, _ => none

noncomputable def r23_Special_en (C : Cal) : Entry := fun us st => match us, st with
  | [.str x0], [] => some (.plain (C.r23_Special x0) fun r => (.bool r, []))
  | _, _ => none

noncomputable def r23_among_en (C : Cal) : Entry := fun us st => match us, st with
  | [.str x0, .slice (.strs x1) false], [] => some (.plain (C.r23_among x0 x1) fun r => (.bool r, []))
  | _, _ => none

noncomputable def xpath_shape_right_en (C : Cal) : Entry := fun us st => match us, st with
  | [.agg [.int .i64 x0_least, .int .i64 x0_most, .int .u8 x0_text, .str x0_words], .agg [.int .u8 x1_k, .int .i64 x1_p, .int .u8 x1_a, .int .u8 x1_t, .int .i64 x1_n, .str x1_s, .slice (.exprs x1_l) false]], [] => some (.plain (C.xpath_shape_right x0_least x0_most x0_text x0_words (XE.mk x1_k x1_p x1_a x1_t x1_n x1_s x1_l)) fun r => (.bool r, []))
  | _, _ => none

noncomputable def check_updates_en (C : Cal) : Entry := fun us st => match us, st with
  | [.int .u8 x0], [] => some (.plain (C.check_updates x0) fun r => (.bool r, []))
  | _, _ => none

noncomputable def slices_Contains_en (C : Cal) : Entry := fun us st => match us, st with
  | [.slice (.strs x0) false, .str x1], [] => some (.plain (C.slices_Contains x0 x1) fun r => (.bool r, []))
  | [.gsl 1000, .str x0], [(1000, .gbuf (.strs x1) true)] => some (.plain (C.slices_Contains_v1 x0 x1) fun r => (.bool r, [(1000, .gbuf (.strs x1) true)]))
  | _, _ => none

noncomputable def chars_NameStart_en (C : Cal) : Entry := fun us st => match us, st with
  | [.int .i32 x0], [] => some (.plain (C.chars_NameStart x0) fun r => (.bool r, []))
  | _, _ => none

noncomputable def chars_NameChar_en (C : Cal) : Entry := fun us st => match us, st with
  | [.int .i32 x0], [] => some (.plain (C.chars_NameChar x0) fun r => (.bool r, []))
  | _, _ => none

noncomputable def r05_within_en (C : Cal) : Entry := fun us st => match us, st with
  | [.int .i32 x0, .int .i32 x1, .int .i32 x2], [] => some (.plain (C.r05_within x0 x1 x2) fun r => (.bool r, []))
  | _, _ => none

noncomputable def r22_whole_en (C : Cal) : Entry := fun us st => match us, st with
  | [.str x0, .int .i64 x1], [] => some (.plain (C.r22_whole x0 x1) fun r => (.tup [.int .i64 r.1, .int .i64 r.2.1, .int .i64 r.2.2], []))
  | _, _ => none

noncomputable def r22_quoted_en (C : Cal) : Entry := fun us st => match us, st with
  | [.str x0, .int .i64 x1], [] => some (.plain (C.r22_quoted x0 x1) fun r => (.tup [.str r.1, .int .i64 r.2], []))
  | _, _ => none

noncomputable def r22_name_en (C : Cal) : Entry := fun us st => match us, st with
  | [.str x0, .int .i64 x1], [] => some (.plain (C.r22_name x0 x1) fun r => (.int .i64 r, []))
  | _, _ => none

noncomputable def r22_signs_en (C : Cal) : Entry := fun us st => match us, st with
  | [], [] => some (.plain (C.r22_signs ) fun r => (.slice (.strs r) false, []))
  | _, _ => none

noncomputable def r23_reader_word_en (C : Cal) : Entry := fun us st => match us, st with
  | [.ptr 1000 0, .int .i64 x1, .str x2], [(1000, .cells [.slice (.toks x0_l) false, .int .i64 x0_i, .bool x0_bad])] => some (.plain (C.r23_reader_word x1 x2 x0_l x0_i x0_bad) fun r => (.bool r, [(1000, .cells [.slice (.toks x0_l) false, .int .i64 x0_i, .bool x0_bad])]))
  | _, _ => none

noncomputable def r23_reader_clause_en (C : Cal) : Entry := fun us st => match us, st with
  | [.ptr 1000 0, .str x1], [(1000, .cells [.slice (.toks x0_l) false, .int .i64 x0_i, .bool x0_bad])] => some (.plain (C.r23_reader_clause x1 x0_l x0_i x0_bad) fun r => (.agg r.1.cells, [(1000, .cells [.slice (.toks x0_l) false, .int .i64 r.2.1, .bool r.2.2])]))
  | _, _ => none

noncomputable def r23_reader_next_en (C : Cal) : Entry := fun us st => match us, st with
  | [.ptr 1000 0], [(1000, .cells [.slice (.toks x0_l) false, .int .i64 x0_i, .bool x0_bad])] => some (.plain (C.r23_reader_next x0_l x0_i x0_bad) fun r => (.agg r.1.cells, [(1000, .cells [.slice (.toks x0_l) false, .int .i64 r.2, .bool x0_bad])]))
  | _, _ => none

noncomputable def r23_reader_some_en (C : Cal) : Entry := fun us st => match us, st with
  | [.ptr 1000 0, .int .u8 x1], [(1000, .cells [.slice (.toks x0_l) false, .int .i64 x0_i, .bool x0_bad])] => some (.plain (C.r23_reader_some x1 x0_l x0_i x0_bad) fun r => (.agg r.1.cells, [(1000, .cells [.slice (.toks x0_l) false, .int .i64 r.2.1, .bool r.2.2])]))
  | _, _ => none

noncomputable def r23_reader_must_en (C : Cal) : Entry := fun us st => match us, st with
  | [.ptr 1000 0, .str x1], [(1000, .cells [.slice (.toks x0_l) false, .int .i64 x0_i, .bool x0_bad])] => some (.plain (C.r23_reader_must x1 x0_l x0_i x0_bad) fun r => (.tup [], [(1000, .cells [.slice (.toks x0_l) false, .int .i64 r.1, .bool r.2])]))
  | _, _ => none

noncomputable def r23_reader_updates_en (C : Cal) : Entry := fun us st => match us, st with
  | [.ptr 1000 0], [(1000, .cells [.slice (.toks x0_l) false, .int .i64 x0_i, .bool x0_bad])] => some (.plain (C.r23_reader_updates x0_l x0_i x0_bad) fun r => (.bool r, [(1000, .cells [.slice (.toks x0_l) false, .int .i64 x0_i, .bool x0_bad])]))
  | _, _ => none

noncomputable def r23_reader_update_en (C : Cal) : Entry := fun us st => match us, st with
  | [.ptr 1000 0], [(1000, .cells [.slice (.toks x0_l) false, .int .i64 x0_i, .bool x0_bad])] => some (.plain (C.r23_reader_update x0_l x0_i x0_bad) fun r => (.agg r.1.cells, [(1000, .cells [.slice (.toks x0_l) false, .int .i64 r.2.1, .bool r.2.2])]))
  | _, _ => none

noncomputable def r23_reader_or_en (C : Cal) : Entry := fun us st => match us, st with
  | [.ptr 1000 0], [(1000, .cells [.slice (.toks x0_l) false, .int .i64 x0_i, .bool x0_bad])] => some (.plain (C.r23_reader_or x0_l x0_i x0_bad) fun r => (.agg r.1.cells, [(1000, .cells [.slice (.toks x0_l) false, .int .i64 r.2.1, .bool r.2.2])]))
  | _, _ => none

noncomputable def r05_NameChar_en (C : Cal) : Entry := fun us st => match us, st with
  | [.int .i32 x0], [] => some (.plain (C.r05_NameChar x0) fun r => (.bool r, []))
  | _, _ => none

noncomputable def r05_NameStart_en (C : Cal) : Entry := fun us st => match us, st with
  | [.int .i32 x0], [] => some (.plain (C.r05_NameStart x0) fun r => (.bool r, []))
  | _, _ => none

noncomputable def chars_Name_en (C : Cal) : Entry := fun us st => match us, st with
  | [.str x0], [] => some (.plain (C.chars_Name x0) fun r => (.bool r, []))
  | _, _ => none

noncomputable def chars_Texts_en (C : Cal) : Entry := fun us st => match us, st with
  | [.str x0], [] => some (.plain (C.chars_Texts x0) fun r => (.bool r, []))
  | _, _ => none

noncomputable def xpath_called_en (C : Cal) : Entry := fun us st => match us, st with
  | [.str x0], [] => some (.plain (C.xpath_called x0) fun r => (.bool r, []))
  | _, _ => none

noncomputable def slices_Index_en (C : Cal) : Entry := fun us st => match us, st with
  | [.slice (.strs x0) false, .str x1], [] => some (.plain (C.slices_Index x0 x1) fun r => (.int .i64 r, []))
  | [.gsl 1000, .str x0], [(1000, .gbuf (.strs x1) true)] => some (.plain (C.slices_Index_v1 x0 x1) fun r => (.int .i64 r, [(1000, .gbuf (.strs x1) true)]))
  | _, _ => none

noncomputable def chars_among_en (C : Cal) : Entry := fun us st => match us, st with
  | [.int .i32 x0, .slice (.tab [.int .i32, .int .i32] x1) false], [] => some (.plain (C.chars_among x0 x1) fun r => (.bool r, []))
  | _, _ => none

noncomputable def r23_reader_variable_en (C : Cal) : Entry := fun us st => match us, st with
  | [.ptr 1000 0], [(1000, .cells [.slice (.toks x0_l) false, .int .i64 x0_i, .bool x0_bad])] => some (.plain (C.r23_reader_variable x0_l x0_i x0_bad) fun r => (.agg r.1.cells, [(1000, .cells [.slice (.toks x0_l) false, .int .i64 r.2.1, .bool r.2.2])]))
  | _, _ => none

noncomputable def r23_reader_more_en (C : Cal) : Entry := fun us st => match us, st with
  | [.ptr 1000 0, .str x1], [(1000, .cells [.slice (.toks x0_l) false, .int .i64 x0_i, .bool x0_bad])] => some (.plain (C.r23_reader_more x1 x0_l x0_i x0_bad) fun r => (.agg r.1.cells, [(1000, .cells [.slice (.toks x0_l) false, .int .i64 r.2.1, .bool r.2.2])]))
  | _, _ => none

noncomputable def r23_reader_no_en (C : Cal) : Entry := fun us st => match us, st with
  | [.ptr 1000 0], [(1000, .cells [.slice (.toks x0_l) false, .int .i64 x0_i, .bool x0_bad])] => some (.plain (C.r23_reader_no x0_l x0_i x0_bad) fun r => (.tup [], [(1000, .cells [.slice (.toks x0_l) false, .int .i64 x0_i, .bool true])]))
  | _, _ => none

noncomputable def r23_reader_place_en (C : Cal) : Entry := fun us st => match us, st with
  | [.ptr 1000 0], [(1000, .cells [.slice (.toks x0_l) false, .int .i64 x0_i, .bool x0_bad])] => some (.plain (C.r23_reader_place x0_l x0_i x0_bad) fun r => (.str r.1, [(1000, .cells [.slice (.toks x0_l) false, .int .i64 r.2.1, .bool r.2.2])]))
  | _, _ => none

noncomputable def r23_reader_binary_en (C : Cal) : Entry := fun us st => match us, st with
  | [.ptr 1000 0, .int .i64 x1], [(1000, .cells [.slice (.toks x0_l) false, .int .i64 x0_i, .bool x0_bad])] => some (.plain (C.r23_reader_binary x1 x0_l x0_i x0_bad) fun r => (.agg r.1.cells, [(1000, .cells [.slice (.toks x0_l) false, .int .i64 r.2.1, .bool r.2.2])]))
  | _, _ => none

noncomputable def r23_reader_minus_en (C : Cal) : Entry := fun us st => match us, st with
  | [.ptr 1000 0], [(1000, .cells [.slice (.toks x0_l) false, .int .i64 x0_i, .bool x0_bad])] => some (.plain (C.r23_reader_minus x0_l x0_i x0_bad) fun r => (.agg r.1.cells, [(1000, .cells [.slice (.toks x0_l) false, .int .i64 r.2.1, .bool r.2.2])]))
  | _, _ => none

noncomputable def r23_level_en (C : Cal) : Entry := fun us st => match us, st with
  | [.int .i64 x0], [] => some (.plain (C.r23_level x0) fun r => (.tup [.slice (.strs r.1) false, .int .u8 r.2], []))
  | _, _ => none

noncomputable def r23_reader_union_en (C : Cal) : Entry := fun us st => match us, st with
  | [.ptr 1000 0], [(1000, .cells [.slice (.toks x0_l) false, .int .i64 x0_i, .bool x0_bad])] => some (.plain (C.r23_reader_union x0_l x0_i x0_bad) fun r => (.agg r.1.cells, [(1000, .cells [.slice (.toks x0_l) false, .int .i64 r.2.1, .bool r.2.2])]))
  | _, _ => none

noncomputable def r23_reader_path_en (C : Cal) : Entry := fun us st => match us, st with
  | [.ptr 1000 0], [(1000, .cells [.slice (.toks x0_l) false, .int .i64 x0_i, .bool x0_bad])] => some (.plain (C.r23_reader_path x0_l x0_i x0_bad) fun r => (.agg r.1.cells, [(1000, .cells [.slice (.toks x0_l) false, .int .i64 r.2.1, .bool r.2.2])]))
  | _, _ => none

noncomputable def r23_reader_begins_en (C : Cal) : Entry := fun us st => match us, st with
  | [.ptr 1000 0], [(1000, .cells [.slice (.toks x0_l) false, .int .i64 x0_i, .bool x0_bad])] => some (.plain (C.r23_reader_begins x0_l x0_i x0_bad) fun r => (.bool r, [(1000, .cells [.slice (.toks x0_l) false, .int .i64 x0_i, .bool x0_bad])]))
  | _, _ => none

noncomputable def r23_reader_row_en (C : Cal) : Entry := fun us st => match us, st with
  | [.ptr 1000 0, .agg [.int .u8 x1_k, .int .i64 x1_p, .int .u8 x1_a, .int .u8 x1_t, .int .i64 x1_n, .str x1_s, .slice (.exprs x1_l) false]], [(1000, .cells [.slice (.toks x0_l) false, .int .i64 x0_i, .bool x0_bad])] => some (.plain (C.r23_reader_row (XE.mk x1_k x1_p x1_a x1_t x1_n x1_s x1_l) x0_l x0_i x0_bad) fun r => (.agg r.1.cells, [(1000, .cells [.slice (.toks x0_l) false, .int .i64 r.2.1, .bool r.2.2])]))
  | _, _ => none

noncomputable def r23_reader_step_en (C : Cal) : Entry := fun us st => match us, st with
  | [.ptr 1000 0], [(1000, .cells [.slice (.toks x0_l) false, .int .i64 x0_i, .bool x0_bad])] => some (.plain (C.r23_reader_step x0_l x0_i x0_bad) fun r => (.agg r.1.cells, [(1000, .cells [.slice (.toks x0_l) false, .int .i64 r.2.1, .bool r.2.2])]))
  | _, _ => none

noncomputable def r23_deep_en (C : Cal) : Entry := fun us st => match us, st with
  | [.agg [.int .u8 x0_k, .int .i64 x0_p, .int .u8 x0_a, .int .u8 x0_t, .int .i64 x0_n, .str x0_s, .slice (.exprs x0_l) false], .int .i64 x1], [] => some (.plain (C.r23_deep (XE.mk x0_k x0_p x0_a x0_t x0_n x0_s x0_l) x1) fun r => (.agg r.cells, []))
  | _, _ => none

noncomputable def r23_reader_axis_en (C : Cal) : Entry := fun us st => match us, st with
  | [.ptr 1000 0], [(1000, .cells [.slice (.toks x0_l) false, .int .i64 x0_i, .bool x0_bad])] => some (.plain (C.r23_reader_axis x0_l x0_i x0_bad) fun r => (.int .u8 r.1, [(1000, .cells [.slice (.toks x0_l) false, .int .i64 r.2, .bool x0_bad])]))
  | _, _ => none

noncomputable def r23_reader_test_en (C : Cal) : Entry := fun us st => match us, st with
  | [.ptr 1000 0, .ptr 1001 0], [(1000, .cells [.slice (.toks x0_l) false, .int .i64 x0_i, .bool x0_bad]), (1001, .cells [.int .u8 x1_Kind, .int .i64 x1_At, .int .u8 x1_Axis, .int .u8 x1_Test, .int .i64 x1_Num, .str x1_Text, .gsl 1002]), (1002, .gbuf (.exprs x1_Kids) true)] => some (.plain (C.r23_reader_test x0_l x0_i x0_bad x1_Kind x1_At x1_Axis x1_Test x1_Num x1_Text x1_Kids) fun r => (.tup [], [(1000, .cells [.slice (.toks x0_l) false, .int .i64 r.1, .bool r.2.1]), (1001, .cells [.int .u8 x1_Kind, .int .i64 x1_At, .int .u8 x1_Axis, .int .u8 r.2.2.1, .int .i64 x1_Num, .str r.2.2.2, .gsl 500000]), (500000, .gbuf (.exprs x1_Kids) true)]))
  | _, _ => none

noncomputable def r23_reader_primary_en (C : Cal) : Entry := fun us st => match us, st with
  | [.ptr 1000 0], [(1000, .cells [.slice (.toks x0_l) false, .int .i64 x0_i, .bool x0_bad])] => some (.plain (C.r23_reader_primary x0_l x0_i x0_bad) fun r => (.agg r.1.cells, [(1000, .cells [.slice (.toks x0_l) false, .int .i64 r.2.1, .bool r.2.2])]))
  | _, _ => none

noncomputable def r23_axes_en (C : Cal) : Entry := fun us st => match us, st with
  | [], [] => some (.plain (C.r23_axes ) fun r => (.slice (.strs r) false, []))
  | _, _ => none

noncomputable def r23_reader_brackets_en (C : Cal) : Entry := fun us st => match us, st with
  | [.ptr 1000 0], [(1000, .cells [.slice (.toks x0_l) false, .int .i64 x0_i, .bool x0_bad])] => some (.plain (C.r23_reader_brackets x0_l x0_i x0_bad) fun r => (.agg r.1.cells, [(1000, .cells [.slice (.toks x0_l) false, .int .i64 r.2.1, .bool r.2.2])]))
  | _, _ => none

noncomputable def r23_reader_call_en (C : Cal) : Entry := fun us st => match us, st with
  | [.ptr 1000 0], [(1000, .cells [.slice (.toks x0_l) false, .int .i64 x0_i, .bool x0_bad])] => some (.plain (C.r23_reader_call x0_l x0_i x0_bad) fun r => (.agg r.1.cells, [(1000, .cells [.slice (.toks x0_l) false, .int .i64 r.2.1, .bool r.2.2])]))
  | _, _ => none

noncomputable def strings_Contains_en (C : Cal) : Entry := fun us st => match us, st with
  | [.str x0, .str x1], [] => some (.plain (C.strings_Contains x0 x1) fun r => (.bool r, []))
  | _, _ => none

noncomputable def unicodeutf8_ValidString_en (C : Cal) : Entry := fun us st => match us, st with
  | [.str x0], [] => some (.plain (C.unicodeutf8_ValidString x0) fun r => (.bool r, []))
  | _, _ => none

noncomputable def tab (C : Cal) : Table := tableOf [(3, w24_CheckOne_en C), (4, w24_CheckWithin_en C), (5, w24_CheckArity_en C), (8, w24_awake_en C), (9, w24_size_en C), (10, r23_Right_en C), (11, check_Query_en C), (12, check_Update_en C), (13, w24_empties_en C), (14, w24_stands_en C), (15, check_Arity_en C), (16, r24_Arity_en C), (20, w24_of_en C), (21, r23_Deep_en C), (22, r23_all_en C), (23, check_all_en C), (24, check_many_en C), (29, r23_Parse_en C), (30, r23_one_en C), (31, r23_holds_en C), (32, xpath_Right_en C), (33, check_checker_check_en C), (48, r22_Scan_en C), (49, r23_reader_expr_en C), (50, r23_reader_kind_en C), (51, r23_reader_here_en C), (52, r23_many_en C), (53, r23_text_en C), (54, xpath_deep_en C), (55, xpath_right_en C), (56, check_checker_own_en C), (57, check_kid_en C), (60, chars_Char_en C), (74, r05_Next_en C), (75, r05_Char_en C), (76, r05_Blank_en C), (77, r22_comment_en C), (78, r22_token_en C), (79, r23_reader_single_en C), (80, r23_reader_sign_en C), (81, r23_reader_is_en C), (82, r23_reader_tok_en C), (83, r23_kids_en C), (84, r05_Texts_en C), (85, r05_Name_en C), (86, r23_Special_en C), (87, r23_among_en C), (88, xpath_shape_right_en C), (89, check_updates_en C), (90, slices_Contains_en C), (107, chars_NameStart_en C), (108, chars_NameChar_en C), (113, r05_within_en C), (114, r22_whole_en C), (115, r22_quoted_en C), (116, r22_name_en C), (117, r22_signs_en C), (118, r23_reader_word_en C), (119, r23_reader_clause_en C), (120, r23_reader_next_en C), (121, r23_reader_some_en C), (122, r23_reader_must_en C), (123, r23_reader_updates_en C), (124, r23_reader_update_en C), (125, r23_reader_or_en C), (126, r05_NameChar_en C), (127, r05_NameStart_en C), (128, chars_Name_en C), (129, chars_Texts_en C), (130, xpath_called_en C), (132, slices_Index_en C), (140, chars_among_en C), (145, r23_reader_variable_en C), (146, r23_reader_more_en C), (147, r23_reader_no_en C), (148, r23_reader_place_en C), (149, r23_reader_binary_en C), (162, r23_reader_minus_en C), (163, r23_level_en C), (172, r23_reader_union_en C), (174, r23_reader_path_en C), (175, r23_reader_begins_en C), (176, r23_reader_row_en C), (177, r23_reader_step_en C), (178, r23_deep_en C), (179, r23_reader_axis_en C), (180, r23_reader_test_en C), (181, r23_reader_primary_en C), (182, r23_axes_en C), (183, r23_reader_brackets_en C), (184, r23_reader_call_en C), (131, strings_Contains_en C), (150, unicodeutf8_ValidString_en C)]

noncomputable def w24_CheckOne_sects : List (Nat × Head) := []
noncomputable def w24_CheckOne_heads : List (Nat × Head) := []
noncomputable def w24_CheckOne_ctx (n : Nat) (C : Cal) : FCtx := { env := env, tab := tab C, loops := fun i => none, keep := [], ntmps := Tryd.f3.ntmps, results := Tryd.f3.results.toList, fuel := n, heads := w24_CheckOne_heads, sects := w24_CheckOne_sects, sectT := fun i => none }
theorem w24_CheckOne_run (n : Nat) (C : Cal) (x0 : XE) :
    bodyRun (w24_CheckOne_ctx n C) (bodyOf Tryd.f3) [.agg x0.cells] [] = goO (w24_CheckOne n C x0) (fun r => .ret (.bool r) []) := by
  simp only [w24_CheckOne, goO_cond, goO_none, goO_some, goO_bind, goO_bindS, goS_cond, goS_none, goS_inl, goS_inr, goS_bind, goS_bindS]; kernel_rfl

noncomputable def w24_CheckWithin_sects : List (Nat × Head) := []
noncomputable def w24_CheckWithin_heads : List (Nat × Head) := [(0, { keep := [1, 5, 6, 7], grow := [], cells := [], out := [1], res := [4] })]
noncomputable def w24_CheckWithin_l0_T (n : Nat) (C : Cal) (k : Nat) : Fr → St → K → KR → Out := fun fr st κ κp => match fr, st with
  | [(1, .str v0), (5, .ptr 5 0), (6, .slice (.exprs v1) false), (7, .int .i64 v2)], [(5, .cells [.int .i64 v3, .int .i64 v4])] => goS (w24_CheckWithin_l0 n C k v1 v2 v3 v4) (fun b => κ .normal [(1, .str v0)] []) (fun b => κ .ret [(4, .bool false)] [])
  | _, _ => .fail
noncomputable def w24_CheckWithin_ctx (n : Nat) (C : Cal) : FCtx := { env := env, tab := tab C, loops := fun i => bif Nat.beq i 0 then some (w24_CheckWithin_l0_T n C n) else none, keep := [], ntmps := Tryd.f4.ntmps, results := Tryd.f4.results.toList, fuel := n, heads := w24_CheckWithin_heads, sects := w24_CheckWithin_sects, sectT := fun i => none }
theorem w24_CheckWithin_l0_step (n : Nat) (C : Cal) (k : Nat) (κ : K) (κp : KR) (v0 : Bytes) (v1 : List XE) (v2 : Int) (v3 : Int) (v4 : Int) :
    loopStep (exec (w24_CheckWithin_ctx n C) (loopBody 0 (bodyOf Tryd.f4))) 0 (look 0 w24_CheckWithin_heads) κ κp (fun fr st => w24_CheckWithin_l0_T n C k fr st κ κp) [(1, .str v0), (5, .ptr 5 0), (6, .slice (.exprs v1) false), (7, .int .i64 v2)] [(5, .cells [.int .i64 v3, .int .i64 v4])] =
    goS (w24_CheckWithin_l0 n C (k + 1) v1 v2 v3 v4) (fun b => κ .normal [(1, .str v0)] []) (fun b => κ .ret [(4, .bool false)] []) := by
  simp only [w24_CheckWithin_l0, goO_cond, goO_none, goO_some, goO_bind, goO_bindS, goS_cond, goS_none, goS_inl, goS_inr, goS_bind, goS_bindS]; kernel_rfl
theorem w24_CheckWithin_run (n : Nat) (C : Cal) (x0 : XE) (x1 : Bytes) :
    bodyRun (w24_CheckWithin_ctx n C) (bodyOf Tryd.f4) [.agg x0.cells, .str x1] [] = goO (w24_CheckWithin n C x0 x1) (fun r => .ret (.bool r) []) := by
  simp only [w24_CheckWithin, goO_cond, goO_none, goO_some, goO_bind, goO_bindS, goS_cond, goS_none, goS_inl, goS_inr, goS_bind, goS_bindS]; kernel_rfl

noncomputable def w24_CheckArity_sects : List (Nat × Head) := []
noncomputable def w24_CheckArity_heads : List (Nat × Head) := []
noncomputable def w24_CheckArity_ctx (n : Nat) (C : Cal) : FCtx := { env := env, tab := tab C, loops := fun i => none, keep := [], ntmps := Tryd.f5.ntmps, results := Tryd.f5.results.toList, fuel := n, heads := w24_CheckArity_heads, sects := w24_CheckArity_sects, sectT := fun i => none }
theorem w24_CheckArity_run (n : Nat) (C : Cal) (x0 : Bytes) :
    bodyRun (w24_CheckArity_ctx n C) (bodyOf Tryd.f5) [.str x0] [] = goO (w24_CheckArity n C x0) (fun r => .ret (.bool r) []) := by
  simp only [w24_CheckArity, goO_cond, goO_none, goO_some, goO_bind, goO_bindS, goS_cond, goS_none, goS_inl, goS_inr, goS_bind, goS_bindS]; kernel_rfl

noncomputable def w24_awake_sects : List (Nat × Head) := []
noncomputable def w24_awake_heads : List (Nat × Head) := []
noncomputable def w24_awake_ctx (n : Nat) (C : Cal) : FCtx := { env := env, tab := tab C, loops := fun i => none, keep := [], ntmps := Tryd.f8.ntmps, results := Tryd.f8.results.toList, fuel := n, heads := w24_awake_heads, sects := w24_awake_sects, sectT := fun i => none }
theorem w24_awake_run (n : Nat) (C : Cal) :
    bodyRun (w24_awake_ctx n C) (bodyOf Tryd.f8) [] [] = goO (w24_awake n C ) (fun r => .ret (.bool r) []) := by
  simp only [w24_awake, goO_cond, goO_none, goO_some, goO_bind, goO_bindS, goS_cond, goS_none, goS_inl, goS_inr, goS_bind, goS_bindS]; kernel_rfl

noncomputable def w24_size_sects : List (Nat × Head) := []
noncomputable def w24_size_heads : List (Nat × Head) := [(0, { keep := [1, 2, 5, 6], grow := [], cells := [], out := [5], res := [4] })]
noncomputable def w24_size_l0_T (n : Nat) (C : Cal) (k : Nat) : Fr → St → K → KR → Out := fun fr st κ κp => match fr, st with
  | [(1, .int .i64 v0), (2, .ptr 2 0), (5, .int .i64 v1), (6, .int .i64 v2)], [(2, .cells [.int .u8 v3_k, .int .i64 v3_p, .int .u8 v3_a, .int .u8 v3_t, .int .i64 v3_n, .str v3_s, .slice (.exprs v3_l) false])] => goS (w24_size_l0 n C k v0 v1 v2 (XE.mk v3_k v3_p v3_a v3_t v3_n v3_s v3_l)) (fun b => κ .normal [(5, .int .i64 b)] []) (fun _ => .fail)
  | _, _ => .fail
noncomputable def w24_size_ctx (n : Nat) (C : Cal) : FCtx := { env := env, tab := tab C, loops := fun i => bif Nat.beq i 0 then some (w24_size_l0_T n C n) else none, keep := [], ntmps := Tryd.f9.ntmps, results := Tryd.f9.results.toList, fuel := n, heads := w24_size_heads, sects := w24_size_sects, sectT := fun i => none }
theorem w24_size_l0_step (n : Nat) (C : Cal) (k : Nat) (κ : K) (κp : KR) (v0 : Int) (v1 : Int) (v2 : Int) (v3 : XE) :
    loopStep (exec (w24_size_ctx n C) (loopBody 0 (bodyOf Tryd.f9))) 0 (look 0 w24_size_heads) κ κp (fun fr st => w24_size_l0_T n C k fr st κ κp) [(1, .int .i64 v0), (2, .ptr 2 0), (5, .int .i64 v1), (6, .int .i64 v2)] [(2, .cells v3.cells)] =
    goS (w24_size_l0 n C (k + 1) v0 v1 v2 v3) (fun b => κ .normal [(5, .int .i64 b)] []) (fun _ => .fail) := by
  simp only [w24_size_l0, goO_cond, goO_none, goO_some, goO_bind, goO_bindS, goS_cond, goS_none, goS_inl, goS_inr, goS_bind, goS_bindS]; kernel_rfl
theorem w24_size_run (n : Nat) (C : Cal) (x0 : XE) (x1 : Int) :
    bodyRun (w24_size_ctx n C) (bodyOf Tryd.f9) [.agg x0.cells, .int .i64 x1] [] = goO (w24_size n C x0 x1) (fun r => .ret (.int .i64 r) []) := by
  simp only [w24_size, goO_cond, goO_none, goO_some, goO_bind, goO_bindS, goS_cond, goS_none, goS_inl, goS_inr, goS_bind, goS_bindS]; kernel_rfl

noncomputable def r23_Right_sects : List (Nat × Head) := []
noncomputable def r23_Right_heads : List (Nat × Head) := []
noncomputable def r23_Right_ctx (n : Nat) (C : Cal) : FCtx := { env := env, tab := tab C, loops := fun i => none, keep := [], ntmps := Tryd.f10.ntmps, results := Tryd.f10.results.toList, fuel := n, heads := r23_Right_heads, sects := r23_Right_sects, sectT := fun i => none }
theorem r23_Right_run (n : Nat) (C : Cal) (x0 : XE) :
    bodyRun (r23_Right_ctx n C) (bodyOf Tryd.f10) [.agg x0.cells] [] = goO (r23_Right n C x0) (fun r => .ret (.bool r) []) := by
  simp only [r23_Right, goO_cond, goO_none, goO_some, goO_bind, goO_bindS, goS_cond, goS_none, goS_inl, goS_inr, goS_bind, goS_bindS]; kernel_rfl

noncomputable def check_Query_sects : List (Nat × Head) := []
noncomputable def check_Query_heads : List (Nat × Head) := []
noncomputable def check_Query_ctx (n : Nat) (C : Cal) : FCtx := { env := env, tab := tab C, loops := fun i => none, keep := [], ntmps := Tryd.f11.ntmps, results := Tryd.f11.results.toList, fuel := n, heads := check_Query_heads, sects := check_Query_sects, sectT := fun i => none }
theorem check_Query_run (n : Nat) (C : Cal) (x0 : XE) :
    bodyRun (check_Query_ctx n C) (bodyOf Tryd.f11) [.agg x0.cells] [] = goO (check_Query n C x0) (fun r => .ret (.agg [.int .i64 r.1, .int .i64 r.2]) []) := by
  simp only [check_Query, goO_cond, goO_none, goO_some, goO_bind, goO_bindS, goS_cond, goS_none, goS_inl, goS_inr, goS_bind, goS_bindS]; kernel_rfl

noncomputable def check_Update_sects : List (Nat × Head) := []
noncomputable def check_Update_heads : List (Nat × Head) := []
noncomputable def check_Update_ctx (n : Nat) (C : Cal) : FCtx := { env := env, tab := tab C, loops := fun i => none, keep := [], ntmps := Tryd.f12.ntmps, results := Tryd.f12.results.toList, fuel := n, heads := check_Update_heads, sects := check_Update_sects, sectT := fun i => none }
theorem check_Update_run (n : Nat) (C : Cal) (x0 : XE) :
    bodyRun (check_Update_ctx n C) (bodyOf Tryd.f12) [.agg x0.cells] [] = goO (check_Update n C x0) (fun r => .ret (.agg [.int .i64 r.1, .int .i64 r.2]) []) := by
  simp only [check_Update, goO_cond, goO_none, goO_some, goO_bind, goO_bindS, goS_cond, goS_none, goS_inl, goS_inr, goS_bind, goS_bindS]; kernel_rfl

noncomputable def w24_empties_sects : List (Nat × Head) := []
noncomputable def w24_empties_heads : List (Nat × Head) := [(1, { keep := [1, 3], grow := [], cells := [], out := [], res := [2] })]
noncomputable def w24_empties_l1_T (n : Nat) (C : Cal) (k : Nat) : Fr → St → K → KR → Out := fun fr st κ κp => match fr, st with
  | [(1, .ptr 1 0), (3, .int .i64 v0)], [(1, .cells [.int .u8 v1_k, .int .i64 v1_p, .int .u8 v1_a, .int .u8 v1_t, .int .i64 v1_n, .str v1_s, .slice (.exprs v1_l) false])] => goS (w24_empties_l1 n C k v0 (XE.mk v1_k v1_p v1_a v1_t v1_n v1_s v1_l)) (fun b => κ .normal [] []) (fun b => κ .ret [(2, .bool false)] [])
  | _, _ => .fail
noncomputable def w24_empties_ctx (n : Nat) (C : Cal) : FCtx := { env := env, tab := tab C, loops := fun i => bif Nat.beq i 1 then some (w24_empties_l1_T n C n) else none, keep := [], ntmps := Tryd.f13.ntmps, results := Tryd.f13.results.toList, fuel := n, heads := w24_empties_heads, sects := w24_empties_sects, sectT := fun i => none }
theorem w24_empties_l1_step (n : Nat) (C : Cal) (k : Nat) (κ : K) (κp : KR) (v0 : Int) (v1 : XE) :
    loopStep (exec (w24_empties_ctx n C) (loopBody 1 (bodyOf Tryd.f13))) 1 (look 1 w24_empties_heads) κ κp (fun fr st => w24_empties_l1_T n C k fr st κ κp) [(1, .ptr 1 0), (3, .int .i64 v0)] [(1, .cells v1.cells)] =
    goS (w24_empties_l1 n C (k + 1) v0 v1) (fun b => κ .normal [] []) (fun b => κ .ret [(2, .bool false)] []) := by
  simp only [w24_empties_l1, goO_cond, goO_none, goO_some, goO_bind, goO_bindS, goS_cond, goS_none, goS_inl, goS_inr, goS_bind, goS_bindS]; kernel_rfl
theorem w24_empties_run (n : Nat) (C : Cal) (x0 : XE) :
    bodyRun (w24_empties_ctx n C) (bodyOf Tryd.f13) [.agg x0.cells] [] = goO (w24_empties n C x0) (fun r => .ret (.bool r) []) := by
  simp only [w24_empties, goO_cond, goO_none, goO_some, goO_bind, goO_bindS, goS_cond, goS_none, goS_inl, goS_inr, goS_bind, goS_bindS]; kernel_rfl

noncomputable def w24_stands_sects : List (Nat × Head) := []
noncomputable def w24_stands_heads : List (Nat × Head) := [(0, { keep := [1, 2, 5], grow := [], cells := [], out := [], res := [4] })]
noncomputable def w24_stands_l0_T (n : Nat) (C : Cal) (k : Nat) : Fr → St → K → KR → Out := fun fr st κ κp => match fr, st with
  | [(1, .int .i64 v0), (2, .ptr 2 0), (5, .int .i64 v1)], [(2, .cells [.int .u8 v2_k, .int .i64 v2_p, .int .u8 v2_a, .int .u8 v2_t, .int .i64 v2_n, .str v2_s, .slice (.exprs v2_l) false])] => goS (w24_stands_l0 n C k v0 v1 (XE.mk v2_k v2_p v2_a v2_t v2_n v2_s v2_l)) (fun b => κ .normal [] []) (fun b => κ .ret [(4, .bool true)] [])
  | _, _ => .fail
noncomputable def w24_stands_ctx (n : Nat) (C : Cal) : FCtx := { env := env, tab := tab C, loops := fun i => bif Nat.beq i 0 then some (w24_stands_l0_T n C n) else none, keep := [], ntmps := Tryd.f14.ntmps, results := Tryd.f14.results.toList, fuel := n, heads := w24_stands_heads, sects := w24_stands_sects, sectT := fun i => none }
theorem w24_stands_l0_step (n : Nat) (C : Cal) (k : Nat) (κ : K) (κp : KR) (v0 : Int) (v1 : Int) (v2 : XE) :
    loopStep (exec (w24_stands_ctx n C) (loopBody 0 (bodyOf Tryd.f14))) 0 (look 0 w24_stands_heads) κ κp (fun fr st => w24_stands_l0_T n C k fr st κ κp) [(1, .int .i64 v0), (2, .ptr 2 0), (5, .int .i64 v1)] [(2, .cells v2.cells)] =
    goS (w24_stands_l0 n C (k + 1) v0 v1 v2) (fun b => κ .normal [] []) (fun b => κ .ret [(4, .bool true)] []) := by
  simp only [w24_stands_l0, goO_cond, goO_none, goO_some, goO_bind, goO_bindS, goS_cond, goS_none, goS_inl, goS_inr, goS_bind, goS_bindS]; kernel_rfl
theorem w24_stands_run (n : Nat) (C : Cal) (x0 : XE) (x1 : Int) :
    bodyRun (w24_stands_ctx n C) (bodyOf Tryd.f14) [.agg x0.cells, .int .i64 x1] [] = goO (w24_stands n C x0 x1) (fun r => .ret (.bool r) []) := by
  simp only [w24_stands, goO_cond, goO_none, goO_some, goO_bind, goO_bindS, goS_cond, goS_none, goS_inl, goS_inr, goS_bind, goS_bindS]; kernel_rfl

noncomputable def check_Arity_sects : List (Nat × Head) := []
noncomputable def check_Arity_heads : List (Nat × Head) := []
noncomputable def check_Arity_ctx (n : Nat) (C : Cal) : FCtx := { env := env, tab := tab C, loops := fun i => none, keep := [], ntmps := Tryd.f15.ntmps, results := Tryd.f15.results.toList, fuel := n, heads := check_Arity_heads, sects := check_Arity_sects, sectT := fun i => none }
theorem check_Arity_run (n : Nat) (C : Cal) (x0 : Bytes) :
    bodyRun (check_Arity_ctx n C) (bodyOf Tryd.f15) [.str x0] [] = goO (check_Arity n C x0) (fun r => .ret (.tup [.int .i64 r.1, .int .i64 r.2.1, .bool r.2.2]) []) := by
  simp only [check_Arity, goO_cond, goO_none, goO_some, goO_bind, goO_bindS, goS_cond, goS_none, goS_inl, goS_inr, goS_bind, goS_bindS]; kernel_rfl

noncomputable def r24_Arity_sects : List (Nat × Head) := []
noncomputable def r24_Arity_heads : List (Nat × Head) := []
noncomputable def r24_Arity_ctx (n : Nat) (C : Cal) : FCtx := { env := env, tab := tab C, loops := fun i => none, keep := [], ntmps := Tryd.f16.ntmps, results := Tryd.f16.results.toList, fuel := n, heads := r24_Arity_heads, sects := r24_Arity_sects, sectT := fun i => none }
theorem r24_Arity_run (n : Nat) (C : Cal) (x0 : Bytes) :
    bodyRun (r24_Arity_ctx n C) (bodyOf Tryd.f16) [.str x0] [] = goO (r24_Arity n C x0) (fun r => .ret (.tup [.int .i64 r.1, .int .i64 r.2.1, .bool r.2.2]) []) := by
  simp only [r24_Arity, goO_cond, goO_none, goO_some, goO_bind, goO_bindS, goS_cond, goS_none, goS_inl, goS_inr, goS_bind, goS_bindS]; kernel_rfl

noncomputable def w24_of_sects : List (Nat × Head) := []
noncomputable def w24_of_heads : List (Nat × Head) := []
noncomputable def w24_of_ctx (n : Nat) (C : Cal) : FCtx := { env := env, tab := tab C, loops := fun i => none, keep := [], ntmps := Tryd.f20.ntmps, results := Tryd.f20.results.toList, fuel := n, heads := w24_of_heads, sects := w24_of_sects, sectT := fun i => none }
theorem w24_of_run (n : Nat) (C : Cal) (x0 : Bytes) :
    bodyRun (w24_of_ctx n C) (bodyOf Tryd.f20) [.str x0] [] = goO (w24_of n C x0) (fun r => .ret (.agg r.cells) []) := by
  simp only [w24_of, goO_cond, goO_none, goO_some, goO_bind, goO_bindS, goS_cond, goS_none, goS_inl, goS_inr, goS_bind, goS_bindS]; kernel_rfl

noncomputable def r23_Deep_sects : List (Nat × Head) := []
noncomputable def r23_Deep_heads : List (Nat × Head) := [(0, { keep := [1, 3, 4], grow := [], cells := [], out := [3], res := [2] })]
noncomputable def r23_Deep_l0_T (n : Nat) (C : Cal) (k : Nat) : Fr → St → K → KR → Out := fun fr st κ κp => match fr, st with
  | [(1, .ptr 1 0), (3, .int .i64 v0), (4, .int .i64 v1)], [(1, .cells [.int .u8 v2_k, .int .i64 v2_p, .int .u8 v2_a, .int .u8 v2_t, .int .i64 v2_n, .str v2_s, .slice (.exprs v2_l) false])] => goS (r23_Deep_l0 n C k v0 v1 (XE.mk v2_k v2_p v2_a v2_t v2_n v2_s v2_l)) (fun b => κ .normal [(3, .int .i64 b)] []) (fun _ => .fail)
  | _, _ => .fail
noncomputable def r23_Deep_ctx (n : Nat) (C : Cal) : FCtx := { env := env, tab := tab C, loops := fun i => bif Nat.beq i 0 then some (r23_Deep_l0_T n C n) else none, keep := [], ntmps := Tryd.f21.ntmps, results := Tryd.f21.results.toList, fuel := n, heads := r23_Deep_heads, sects := r23_Deep_sects, sectT := fun i => none }
theorem r23_Deep_l0_step (n : Nat) (C : Cal) (k : Nat) (κ : K) (κp : KR) (v0 : Int) (v1 : Int) (v2 : XE) :
    loopStep (exec (r23_Deep_ctx n C) (loopBody 0 (bodyOf Tryd.f21))) 0 (look 0 r23_Deep_heads) κ κp (fun fr st => r23_Deep_l0_T n C k fr st κ κp) [(1, .ptr 1 0), (3, .int .i64 v0), (4, .int .i64 v1)] [(1, .cells v2.cells)] =
    goS (r23_Deep_l0 n C (k + 1) v0 v1 v2) (fun b => κ .normal [(3, .int .i64 b)] []) (fun _ => .fail) := by
  simp only [r23_Deep_l0, goO_cond, goO_none, goO_some, goO_bind, goO_bindS, goS_cond, goS_none, goS_inl, goS_inr, goS_bind, goS_bindS]; kernel_rfl
theorem r23_Deep_run (n : Nat) (C : Cal) (x0 : XE) :
    bodyRun (r23_Deep_ctx n C) (bodyOf Tryd.f21) [.agg x0.cells] [] = goO (r23_Deep n C x0) (fun r => .ret (.int .i64 r) []) := by
  simp only [r23_Deep, goO_cond, goO_none, goO_some, goO_bind, goO_bindS, goS_cond, goS_none, goS_inl, goS_inr, goS_bind, goS_bindS]; kernel_rfl

noncomputable def r23_all_sects : List (Nat × Head) := []
noncomputable def r23_all_heads : List (Nat × Head) := [(0, { keep := [2, 5], grow := [], cells := [], out := [], res := [4] })]
noncomputable def r23_all_l0_T (n : Nat) (C : Cal) (k : Nat) : Fr → St → K → KR → Out := fun fr st κ κp => match fr, st with
  | [(2, .ptr 2 0), (5, .int .i64 v0)], [(2, .cells [.int .u8 v1_k, .int .i64 v1_p, .int .u8 v1_a, .int .u8 v1_t, .int .i64 v1_n, .str v1_s, .slice (.exprs v1_l) false])] => goS (r23_all_l0 n C k v0 (XE.mk v1_k v1_p v1_a v1_t v1_n v1_s v1_l)) (fun b => κ .normal [] []) (fun b => κ .ret [(4, .bool false)] [])
  | _, _ => .fail
noncomputable def r23_all_ctx (n : Nat) (C : Cal) : FCtx := { env := env, tab := tab C, loops := fun i => bif Nat.beq i 0 then some (r23_all_l0_T n C n) else none, keep := [], ntmps := Tryd.f22.ntmps, results := Tryd.f22.results.toList, fuel := n, heads := r23_all_heads, sects := r23_all_sects, sectT := fun i => none }
theorem r23_all_l0_step (n : Nat) (C : Cal) (k : Nat) (κ : K) (κp : KR) (v0 : Int) (v1 : XE) :
    loopStep (exec (r23_all_ctx n C) (loopBody 0 (bodyOf Tryd.f22))) 0 (look 0 r23_all_heads) κ κp (fun fr st => r23_all_l0_T n C k fr st κ κp) [(2, .ptr 2 0), (5, .int .i64 v0)] [(2, .cells v1.cells)] =
    goS (r23_all_l0 n C (k + 1) v0 v1) (fun b => κ .normal [] []) (fun b => κ .ret [(4, .bool false)] []) := by
  simp only [r23_all_l0, goO_cond, goO_none, goO_some, goO_bind, goO_bindS, goS_cond, goS_none, goS_inl, goS_inr, goS_bind, goS_bindS]; kernel_rfl
theorem r23_all_run (n : Nat) (C : Cal) (x0 : XE) (x1 : Bool) :
    bodyRun (r23_all_ctx n C) (bodyOf Tryd.f22) [.agg x0.cells, .bool x1] [] = goO (r23_all n C x0 x1) (fun r => .ret (.bool r) []) := by
  simp only [r23_all, goO_cond, goO_none, goO_some, goO_bind, goO_bindS, goS_cond, goS_none, goS_inl, goS_inr, goS_bind, goS_bindS]; kernel_rfl

noncomputable def check_all_sects : List (Nat × Head) := []
noncomputable def check_all_heads : List (Nat × Head) := []
noncomputable def check_all_ctx (n : Nat) (C : Cal) : FCtx := { env := env, tab := tab C, loops := fun i => none, keep := [], ntmps := Tryd.f23.ntmps, results := Tryd.f23.results.toList, fuel := n, heads := check_all_heads, sects := check_all_sects, sectT := fun i => none }
theorem check_all_run (n : Nat) (C : Cal) (x0 : XE) (x1 : Int) :
    bodyRun (check_all_ctx n C) (bodyOf Tryd.f23) [.agg x0.cells, .int .i64 x1] [] = goO (check_all n C x0 x1) (fun r => .ret (.agg [.int .i64 r.1, .int .i64 r.2]) []) := by
  simp only [check_all, goO_cond, goO_none, goO_some, goO_bind, goO_bindS, goS_cond, goS_none, goS_inl, goS_inr, goS_bind, goS_bindS]; kernel_rfl

noncomputable def check_many_sects : List (Nat × Head) := []
noncomputable def check_many_heads : List (Nat × Head) := []
noncomputable def check_many_ctx (n : Nat) (C : Cal) : FCtx := { env := env, tab := tab C, loops := fun i => none, keep := [], ntmps := Tryd.f24.ntmps, results := Tryd.f24.results.toList, fuel := 64, heads := check_many_heads, sects := check_many_sects, sectT := fun i => none }
theorem check_many_run (n : Nat) (C : Cal) :
    bodyRun (check_many_ctx n C) (bodyOf Tryd.f24) [] [] = goO (check_many n C ) (fun r => .ret (.map 500000) [(500000, .map [.int .i64, .int .i64] r)]) := by
  simp only [check_many, goO_cond, goO_none, goO_some, goO_bind, goO_bindS, goS_cond, goS_none, goS_inl, goS_inr, goS_bind, goS_bindS]; kernel_rfl

noncomputable def r23_Parse_sects : List (Nat × Head) := []
noncomputable def r23_Parse_heads : List (Nat × Head) := []
noncomputable def r23_Parse_ctx (n : Nat) (C : Cal) : FCtx := { env := env, tab := tab C, loops := fun i => none, keep := [], ntmps := Tryd.f29.ntmps, results := Tryd.f29.results.toList, fuel := n, heads := r23_Parse_heads, sects := r23_Parse_sects, sectT := fun i => none }
theorem r23_Parse_run (n : Nat) (C : Cal) (x0 : Bytes) :
    bodyRun (r23_Parse_ctx n C) (bodyOf Tryd.f29) [.str x0] [] = goO (r23_Parse n C x0) (fun r => .ret (.tup [.agg r.1.cells, .agg [.int .i64 r.2.1, .int .i64 r.2.2]]) []) := by
  simp only [r23_Parse, goO_cond, goO_none, goO_some, goO_bind, goO_bindS, goS_cond, goS_none, goS_inl, goS_inr, goS_bind, goS_bindS]; kernel_rfl

noncomputable def r23_one_sects : List (Nat × Head) := []
noncomputable def r23_one_heads : List (Nat × Head) := []
noncomputable def r23_one_ctx (n : Nat) (C : Cal) : FCtx := { env := env, tab := tab C, loops := fun i => none, keep := [], ntmps := Tryd.f30.ntmps, results := Tryd.f30.results.toList, fuel := n, heads := r23_one_heads, sects := r23_one_sects, sectT := fun i => none }
theorem r23_one_run (n : Nat) (C : Cal) (x0 : XE) (x1 : Bool) :
    bodyRun (r23_one_ctx n C) (bodyOf Tryd.f30) [.agg x0.cells, .bool x1] [] = goO (r23_one n C x0 x1) (fun r => .ret (.bool r) []) := by
  simp only [r23_one, goO_cond, goO_none, goO_some, goO_bind, goO_bindS, goS_cond, goS_none, goS_inl, goS_inr, goS_bind, goS_bindS]; kernel_rfl

noncomputable def r23_holds_sects : List (Nat × Head) := []
noncomputable def r23_holds_heads : List (Nat × Head) := []
noncomputable def r23_holds_ctx (n : Nat) (C : Cal) : FCtx := { env := env, tab := tab C, loops := fun i => none, keep := [], ntmps := Tryd.f31.ntmps, results := Tryd.f31.results.toList, fuel := n, heads := r23_holds_heads, sects := r23_holds_sects, sectT := fun i => none }
theorem r23_holds_run (n : Nat) (C : Cal) (x0 : Int) :
    bodyRun (r23_holds_ctx n C) (bodyOf Tryd.f31) [.int .u8 x0] [] = goO (r23_holds n C x0) (fun r => .ret (.bool r) []) := by
  simp only [r23_holds, goO_cond, goO_none, goO_some, goO_bind, goO_bindS, goS_cond, goS_none, goS_inl, goS_inr, goS_bind, goS_bindS]; kernel_rfl

noncomputable def xpath_Right_sects : List (Nat × Head) := []
noncomputable def xpath_Right_heads : List (Nat × Head) := []
noncomputable def xpath_Right_ctx (n : Nat) (C : Cal) : FCtx := { env := env, tab := tab C, loops := fun i => none, keep := [], ntmps := Tryd.f32.ntmps, results := Tryd.f32.results.toList, fuel := n, heads := xpath_Right_heads, sects := xpath_Right_sects, sectT := fun i => none }
theorem xpath_Right_run (n : Nat) (C : Cal) (x0 : XE) :
    bodyRun (xpath_Right_ctx n C) (bodyOf Tryd.f32) [.agg x0.cells] [] = goO (xpath_Right n C x0) (fun r => .ret (.bool r) []) := by
  simp only [xpath_Right, goO_cond, goO_none, goO_some, goO_bind, goO_bindS, goS_cond, goS_none, goS_inl, goS_inr, goS_bind, goS_bindS]; kernel_rfl

noncomputable def check_checker_check_s32_h : Head := { keep := [0, 2, 3, 5, 8, 10, 11, 12, 31, 32, 33], grow := [], cells := [], out := [0, 2, 3, 5, 8, 10, 13, 31, 32, 33], res := [8] }
noncomputable def check_checker_check_sects : List (Nat × Head) := [(32, check_checker_check_s32_h)]
noncomputable def check_checker_check_heads : List (Nat × Head) := [(0, { keep := [0, 2, 3, 5, 8, 10, 31, 32, 33], grow := [], cells := [], out := [0, 8, 10], res := [8] })]
noncomputable def check_checker_check_s32_T (n : Nat) (C : Cal) : Fr → St → K → KR → Out := fun fr st κ κp => match fr, st with
  | [(0, .ptr 1000 0), (2, .int .i64 v0), (3, .bool v1), (5, .ptr 5 0), (8, .ptr 8 0), (10, .int .i64 v2), (11, .int .i64 v3), (12, .ptr 12 0), (31, .slice (.exprs v4) false), (32, .int .i64 v5), (33, .int .i64 v6)], [(1000, .cells [.map 1001, .gsl 300000]), (1001, .map [.int .i64, .int .i64] v7), (300000, .gbuf (.strs v8) true), (5, .cells [.int .u8 v9_k, .int .i64 v9_p, .int .u8 v9_a, .int .u8 v9_t, .int .i64 v9_n, .str v9_s, .slice (.exprs v9_l) false]), (8, .cells [.int .i64 v10, .int .i64 v11]), (12, .cells [.int .u8 v12_k, .int .i64 v12_p, .int .u8 v12_a, .int .u8 v12_t, .int .i64 v12_n, .str v12_s, .slice (.exprs v12_l) false])] => goO (check_checker_check_s32 n C v0 v1 v3 v7 v8 (XE.mk v9_k v9_p v9_a v9_t v9_n v9_s v9_l) (XE.mk v12_k v12_p v12_a v12_t v12_n v12_s v12_l)) (fun b => κ .normal [(0, .ptr 1000 0), (2, .int .i64 v0), (3, .bool v1), (5, .ptr 5 0), (8, .ptr 8 0), (10, .int .i64 v2), (13, .ptr 13 0), (31, .slice (.exprs v4) false), (32, .int .i64 v5), (33, .int .i64 v6)] [(1000, .cells [.map 1001, .gsl 300000]), (1001, .map [.int .i64, .int .i64] v7), (300000, .gbuf (.strs b.1) true), (5, .cells (XE.mk v9_k v9_p v9_a v9_t v9_n v9_s v9_l).cells), (8, .cells [.int .i64 v10, .int .i64 v11]), (13, .cells [.int .i64 b.2.1, .int .i64 b.2.2])])
  | _, _ => .fail
noncomputable def check_checker_check_l0_T (n : Nat) (C : Cal) (k : Nat) : Fr → St → K → KR → Out := fun fr st κ κp => match fr, st with
  | [(0, .ptr 1000 0), (2, .int .i64 v0), (3, .bool v1), (5, .ptr 5 0), (8, .ptr 8 0), (10, .int .i64 v2), (31, .slice (.exprs v3) false), (32, .int .i64 v4), (33, .int .i64 v5)], [(1000, .cells [.map 1001, .gsl 300000]), (1001, .map [.int .i64, .int .i64] v6), (300000, .gbuf (.strs v7) true), (5, .cells [.int .u8 v8_k, .int .i64 v8_p, .int .u8 v8_a, .int .u8 v8_t, .int .i64 v8_n, .str v8_s, .slice (.exprs v8_l) false]), (8, .cells [.int .i64 0, .int .i64 0])] => goS (check_checker_check_l0 n C k v0 v1 v3 v4 v5 v6 v7 (XE.mk v8_k v8_p v8_a v8_t v8_n v8_s v8_l)) (fun b => κ .normal [(0, .ptr 1000 0), (8, .ptr 8 0), (10, .int .i64 v2)] [(1000, .cells [.map 1001, .gsl 300000]), (1001, .map [.int .i64, .int .i64] v6), (300000, .gbuf (.strs b) true), (8, .cells [.int .i64 0, .int .i64 0])]) (fun b => κ .ret [(8, .ptr 8 0)] [(8, .cells [.int .i64 b.1, .int .i64 b.2.1]), (1000, .cells [.map 1001, .gsl 300000]), (1001, .map [.int .i64, .int .i64] v6), (300000, .gbuf (.strs b.2.2) true)])
  | _, _ => .fail
noncomputable def check_checker_check_ctx (n : Nat) (C : Cal) : FCtx := { env := env, tab := tab C, loops := fun i => bif Nat.beq i 0 then some (check_checker_check_l0_T n C n) else none, keep := [], ntmps := Tryd.f33.ntmps, results := Tryd.f33.results.toList, fuel := n, heads := check_checker_check_heads, sects := check_checker_check_sects, sectT := fun i => bif Nat.beq i 32 then some (check_checker_check_s32_T n C) else none }
theorem check_checker_check_l0_step (n : Nat) (C : Cal) (k : Nat) (κ : K) (κp : KR) (v0 : Int) (v1 : Bool) (v2 : Int) (v3 : List XE) (v4 : Int) (v5 : Int) (v6 : List (Bytes × List Cell)) (v7 : List Bytes) (v8 : XE) :
    loopStep (exec (check_checker_check_ctx n C) (loopBody 0 (bodyOf Tryd.f33))) 0 (look 0 check_checker_check_heads) κ κp (fun fr st => check_checker_check_l0_T n C k fr st κ κp) [(0, .ptr 1000 0), (2, .int .i64 v0), (3, .bool v1), (5, .ptr 5 0), (8, .ptr 8 0), (10, .int .i64 v2), (31, .slice (.exprs v3) false), (32, .int .i64 v4), (33, .int .i64 v5)] [(1000, .cells [.map 1001, .gsl 300000]), (1001, .map [.int .i64, .int .i64] v6), (300000, .gbuf (.strs v7) true), (5, .cells v8.cells), (8, .cells [.int .i64 0, .int .i64 0])] =
    goS (check_checker_check_l0 n C (k + 1) v0 v1 v3 v4 v5 v6 v7 v8) (fun b => κ .normal [(0, .ptr 1000 0), (8, .ptr 8 0), (10, .int .i64 v2)] [(1000, .cells [.map 1001, .gsl 300000]), (1001, .map [.int .i64, .int .i64] v6), (300000, .gbuf (.strs b) true), (8, .cells [.int .i64 0, .int .i64 0])]) (fun b => κ .ret [(8, .ptr 8 0)] [(8, .cells [.int .i64 b.1, .int .i64 b.2.1]), (1000, .cells [.map 1001, .gsl 300000]), (1001, .map [.int .i64, .int .i64] v6), (300000, .gbuf (.strs b.2.2) true)]) := by
  simp only [check_checker_check_l0, goO_cond, goO_none, goO_some, goO_bind, goO_bindS, goS_cond, goS_none, goS_inl, goS_inr, goS_bind, goS_bindS]; kernel_rfl
theorem check_checker_check_s32_step (n : Nat) (C : Cal) (κ : K) (κp : KR) (v0 : Int) (v1 : Bool) (v2 : Int) (v3 : Int) (v4 : List XE) (v5 : Int) (v6 : Int) (v7 : List (Bytes × List Cell)) (v8 : List Bytes) (v9 : XE) (v10 : Int) (v11 : Int) (v12 : XE) :
    exec (check_checker_check_ctx n C) (sectBody 32 (bodyOf Tryd.f33)) [(0, .ptr 1000 0), (2, .int .i64 v0), (3, .bool v1), (5, .ptr 5 0), (8, .ptr 8 0), (10, .int .i64 v2), (11, .int .i64 v3), (12, .ptr 12 0), (31, .slice (.exprs v4) false), (32, .int .i64 v5), (33, .int .i64 v6)] [(1000, .cells [.map 1001, .gsl 300000]), (1001, .map [.int .i64, .int .i64] v7), (300000, .gbuf (.strs v8) true), (5, .cells v9.cells), (8, .cells [.int .i64 v10, .int .i64 v11]), (12, .cells v12.cells)] (sectEnd check_checker_check_s32_h κ) κp =
    goO (check_checker_check_s32 n C v0 v1 v3 v7 v8 v9 v12) (fun b => κ .normal [(0, .ptr 1000 0), (2, .int .i64 v0), (3, .bool v1), (5, .ptr 5 0), (8, .ptr 8 0), (10, .int .i64 v2), (13, .ptr 13 0), (31, .slice (.exprs v4) false), (32, .int .i64 v5), (33, .int .i64 v6)] [(1000, .cells [.map 1001, .gsl 300000]), (1001, .map [.int .i64, .int .i64] v7), (300000, .gbuf (.strs b.1) true), (5, .cells v9.cells), (8, .cells [.int .i64 v10, .int .i64 v11]), (13, .cells [.int .i64 b.2.1, .int .i64 b.2.2])]) := by
  simp only [check_checker_check_s32, goO_cond, goO_none, goO_some, goO_bind, goO_bindS, goS_cond, goS_none, goS_inl, goS_inr, goS_bind, goS_bindS]; kernel_rfl
theorem check_checker_check_run (n : Nat) (C : Cal) (x1 : XE) (x2 : Int) (x3 : Bool) (x0_functions : List (Bytes × List Cell)) (x0_bound : List Bytes) :
    bodyRun (check_checker_check_ctx n C) (bodyOf Tryd.f33) [.ptr 1000 0, .agg x1.cells, .int .i64 x2, .bool x3] [(1000, .cells [.map 1001, .gsl 1002]), (1001, .map [.int .i64, .int .i64] x0_functions), (1002, .gbuf (.strs x0_bound) true)] = goO (check_checker_check n C x1 x2 x3 x0_functions x0_bound) (fun r => .ret (.agg [.int .i64 r.1, .int .i64 r.2.1]) [(1000, .cells [.map 1001, .gsl 500000]), (1001, .map [.int .i64, .int .i64] x0_functions), (500000, .gbuf (.strs r.2.2) true)]) := by
  simp only [check_checker_check, goO_cond, goO_none, goO_some, goO_bind, goO_bindS, goS_cond, goS_none, goS_inl, goS_inr, goS_bind, goS_bindS]; kernel_rfl

noncomputable def r22_Scan_sects : List (Nat × Head) := []
noncomputable def r22_Scan_heads : List (Nat × Head) := [(0, { keep := [0, 3, 4], grow := [], cells := [], out := [0, 3], res := [2, 3] }), (2, { keep := [0, 3, 7, 8], grow := [(7, false)], cells := [], out := [3, 7, 8], res := [2, 3] })]
noncomputable def r22_Scan_l0_T (n : Nat) (C : Cal) (k : Nat) : Fr → St → K → KR → Out := fun fr st κ κp => match fr, st with
  | [(0, .str v0), (3, .ptr 3 0), (4, .int .i64 v1)], [(3, .cells [.int .i64 0, .int .i64 0])] => goS (r22_Scan_l0 n C k v0 v1) (fun b => κ .normal [(0, .str v0), (3, .ptr 3 0)] [(3, .cells [.int .i64 0, .int .i64 0])]) (fun b => κ .ret [(2, .slice (.toks []) false), (3, .ptr 3 0)] [(3, .cells [.int .i64 120, .int .i64 b])])
  | _, _ => .fail
noncomputable def r22_Scan_l2_T (n : Nat) (C : Cal) (k : Nat) : Fr → St → K → KR → Out := fun fr st κ κp => match fr, st with
  | [(0, .str v0), (3, .ptr 3 0), (7, .gsl 300000), (8, .int .i64 v1)], [(3, .cells [.int .i64 0, .int .i64 0]), (300000, .gbuf (.toks v4) true)] => goS (r22_Scan_l2 n C k v0 v1 v4) (fun b => κ .normal [(3, .ptr 3 0), (7, .gsl 300000), (8, .int .i64 b.1)] [(3, .cells [.int .i64 0, .int .i64 0]), (300000, .gbuf (.toks b.2) true)]) (fun b => κ .ret [(2, .slice (.toks []) false), (3, .ptr 3 0)] [(3, .cells [.int .i64 b.1, .int .i64 b.2])])
  | _, _ => .fail
noncomputable def r22_Scan_ctx (n : Nat) (C : Cal) : FCtx := { env := env, tab := tab C, loops := fun i => bif Nat.beq i 2 then some (r22_Scan_l2_T n C n) else bif Nat.beq i 0 then some (r22_Scan_l0_T n C n) else none, keep := [], ntmps := Tryd.f48.ntmps, results := Tryd.f48.results.toList, fuel := n, heads := r22_Scan_heads, sects := r22_Scan_sects, sectT := fun i => none }
theorem r22_Scan_l0_step (n : Nat) (C : Cal) (k : Nat) (κ : K) (κp : KR) (v0 : Bytes) (v1 : Int) :
    loopStep (exec (r22_Scan_ctx n C) (loopBody 0 (bodyOf Tryd.f48))) 0 (look 0 r22_Scan_heads) κ κp (fun fr st => r22_Scan_l0_T n C k fr st κ κp) [(0, .str v0), (3, .ptr 3 0), (4, .int .i64 v1)] [(3, .cells [.int .i64 0, .int .i64 0])] =
    goS (r22_Scan_l0 n C (k + 1) v0 v1) (fun b => κ .normal [(0, .str v0), (3, .ptr 3 0)] [(3, .cells [.int .i64 0, .int .i64 0])]) (fun b => κ .ret [(2, .slice (.toks []) false), (3, .ptr 3 0)] [(3, .cells [.int .i64 120, .int .i64 b])]) := by
  simp only [r22_Scan_l0, goO_cond, goO_none, goO_some, goO_bind, goO_bindS, goS_cond, goS_none, goS_inl, goS_inr, goS_bind, goS_bindS]; kernel_rfl
theorem r22_Scan_l2_step (n : Nat) (C : Cal) (k : Nat) (κ : K) (κp : KR) (v0 : Bytes) (v1 : Int) (v4 : List XT) :
    loopStep (exec (r22_Scan_ctx n C) (loopBody 2 (bodyOf Tryd.f48))) 2 (look 2 r22_Scan_heads) κ κp (fun fr st => r22_Scan_l2_T n C k fr st κ κp) [(0, .str v0), (3, .ptr 3 0), (7, .gsl 300000), (8, .int .i64 v1)] [(3, .cells [.int .i64 0, .int .i64 0]), (300000, .gbuf (.toks v4) true)] =
    goS (r22_Scan_l2 n C (k + 1) v0 v1 v4) (fun b => κ .normal [(3, .ptr 3 0), (7, .gsl 300000), (8, .int .i64 b.1)] [(3, .cells [.int .i64 0, .int .i64 0]), (300000, .gbuf (.toks b.2) true)]) (fun b => κ .ret [(2, .slice (.toks []) false), (3, .ptr 3 0)] [(3, .cells [.int .i64 b.1, .int .i64 b.2])]) := by
  simp only [r22_Scan_l2, goO_cond, goO_none, goO_some, goO_bind, goO_bindS, goS_cond, goS_none, goS_inl, goS_inr, goS_bind, goS_bindS]; kernel_rfl
theorem r22_Scan_run (n : Nat) (C : Cal) (x0 : Bytes) :
    bodyRun (r22_Scan_ctx n C) (bodyOf Tryd.f48) [.str x0] [] = goO (r22_Scan n C x0) (fun r => .ret (.tup [.slice (.toks r.1) false, .agg [.int .i64 r.2.1, .int .i64 r.2.2]]) []) := by
  simp only [r22_Scan, goO_cond, goO_none, goO_some, goO_bind, goO_bindS, goS_cond, goS_none, goS_inl, goS_inr, goS_bind, goS_bindS]; kernel_rfl

noncomputable def r23_reader_expr_sects : List (Nat × Head) := []
noncomputable def r23_reader_expr_heads : List (Nat × Head) := [(0, { keep := [0, 2, 5], grow := [], cells := [(5, 6, true)], out := [2, 5], res := [2] })]
noncomputable def r23_reader_expr_l0_T (n : Nat) (C : Cal) (k : Nat) : Fr → St → K → KR → Out := fun fr st κ κp => match fr, st with
  | [(0, .ptr 1000 0), (2, .ptr 2 0), (5, .ptr 5 0)], [(1000, .cells [.slice (.toks v0) false, .int .i64 v1, .bool v2]), (2, .cells [.int .u8 0, .int .i64 0, .int .u8 0, .int .u8 0, .int .i64 0, .str [], .slice (.exprs []) false]), (5, .cells [.int .u8 1, .int .i64 v5, .int .u8 0, .int .u8 0, .int .i64 0, .str [], .gsl 300000]), (300000, .gbuf (.exprs v10) false)] => goS (r23_reader_expr_l0 n C k v0 v1 v2 v10) (fun b => κ .normal [(2, .ptr 2 0), (5, .ptr 5 0)] [(2, .cells b.1.cells), (5, .cells [.int .u8 1, .int .i64 v5, .int .u8 0, .int .u8 0, .int .i64 0, .str [], .gsl 300000]), (300000, .gbuf (.exprs b.2.1) false), (1000, .cells [.slice (.toks v0) false, .int .i64 b.2.2.1, .bool b.2.2.2])]) (fun _ => .fail)
  | _, _ => .fail
noncomputable def r23_reader_expr_ctx (n : Nat) (C : Cal) : FCtx := { env := env, tab := tab C, loops := fun i => bif Nat.beq i 0 then some (r23_reader_expr_l0_T n C n) else none, keep := [], ntmps := Tryd.f49.ntmps, results := Tryd.f49.results.toList, fuel := n, heads := r23_reader_expr_heads, sects := r23_reader_expr_sects, sectT := fun i => none }
theorem r23_reader_expr_l0_step (n : Nat) (C : Cal) (k : Nat) (κ : K) (κp : KR) (v0 : List XT) (v1 : Int) (v2 : Bool) (v5 : Int) (v10 : List XE) :
    loopStep (exec (r23_reader_expr_ctx n C) (loopBody 0 (bodyOf Tryd.f49))) 0 (look 0 r23_reader_expr_heads) κ κp (fun fr st => r23_reader_expr_l0_T n C k fr st κ κp) [(0, .ptr 1000 0), (2, .ptr 2 0), (5, .ptr 5 0)] [(1000, .cells [.slice (.toks v0) false, .int .i64 v1, .bool v2]), (2, .cells (XE.mk 0 0 0 0 0 [] []).cells), (5, .cells [.int .u8 1, .int .i64 v5, .int .u8 0, .int .u8 0, .int .i64 0, .str [], .gsl 300000]), (300000, .gbuf (.exprs v10) false)] =
    goS (r23_reader_expr_l0 n C (k + 1) v0 v1 v2 v10) (fun b => κ .normal [(2, .ptr 2 0), (5, .ptr 5 0)] [(2, .cells b.1.cells), (5, .cells [.int .u8 1, .int .i64 v5, .int .u8 0, .int .u8 0, .int .i64 0, .str [], .gsl 300000]), (300000, .gbuf (.exprs b.2.1) false), (1000, .cells [.slice (.toks v0) false, .int .i64 b.2.2.1, .bool b.2.2.2])]) (fun _ => .fail) := by
  simp only [r23_reader_expr_l0, goO_cond, goO_none, goO_some, goO_bind, goO_bindS, goS_cond, goS_none, goS_inl, goS_inr, goS_bind, goS_bindS]; kernel_rfl
theorem r23_reader_expr_run (n : Nat) (C : Cal) (x0_l : List XT) (x0_i : Int) (x0_bad : Bool) :
    bodyRun (r23_reader_expr_ctx n C) (bodyOf Tryd.f49) [.ptr 1000 0] [(1000, .cells [.slice (.toks x0_l) false, .int .i64 x0_i, .bool x0_bad])] = goO (r23_reader_expr n C x0_l x0_i x0_bad) (fun r => .ret (.agg r.1.cells) [(1000, .cells [.slice (.toks x0_l) false, .int .i64 r.2.1, .bool r.2.2])]) := by
  simp only [r23_reader_expr, goO_cond, goO_none, goO_some, goO_bind, goO_bindS, goS_cond, goS_none, goS_inl, goS_inr, goS_bind, goS_bindS]; kernel_rfl

noncomputable def r23_reader_kind_sects : List (Nat × Head) := []
noncomputable def r23_reader_kind_heads : List (Nat × Head) := []
noncomputable def r23_reader_kind_ctx (n : Nat) (C : Cal) : FCtx := { env := env, tab := tab C, loops := fun i => none, keep := [], ntmps := Tryd.f50.ntmps, results := Tryd.f50.results.toList, fuel := n, heads := r23_reader_kind_heads, sects := r23_reader_kind_sects, sectT := fun i => none }
theorem r23_reader_kind_run (n : Nat) (C : Cal) (x1 : Int) (x2 : Int) (x0_l : List XT) (x0_i : Int) (x0_bad : Bool) :
    bodyRun (r23_reader_kind_ctx n C) (bodyOf Tryd.f50) [.ptr 1000 0, .int .i64 x1, .int .u8 x2] [(1000, .cells [.slice (.toks x0_l) false, .int .i64 x0_i, .bool x0_bad])] = goO (r23_reader_kind n C x1 x2 x0_l x0_i x0_bad) (fun r => .ret (.bool r) [(1000, .cells [.slice (.toks x0_l) false, .int .i64 x0_i, .bool x0_bad])]) := by
  simp only [r23_reader_kind, goO_cond, goO_none, goO_some, goO_bind, goO_bindS, goS_cond, goS_none, goS_inl, goS_inr, goS_bind, goS_bindS]; kernel_rfl

noncomputable def r23_reader_here_sects : List (Nat × Head) := []
noncomputable def r23_reader_here_heads : List (Nat × Head) := []
noncomputable def r23_reader_here_ctx (n : Nat) (C : Cal) : FCtx := { env := env, tab := tab C, loops := fun i => none, keep := [], ntmps := Tryd.f51.ntmps, results := Tryd.f51.results.toList, fuel := n, heads := r23_reader_here_heads, sects := r23_reader_here_sects, sectT := fun i => none }
theorem r23_reader_here_run (n : Nat) (C : Cal) (x0_l : List XT) (x0_i : Int) (x0_bad : Bool) :
    bodyRun (r23_reader_here_ctx n C) (bodyOf Tryd.f51) [.ptr 1000 0] [(1000, .cells [.slice (.toks x0_l) false, .int .i64 x0_i, .bool x0_bad])] = goO (r23_reader_here n C x0_l x0_i x0_bad) (fun r => .ret (.int .i64 r) [(1000, .cells [.slice (.toks x0_l) false, .int .i64 x0_i, .bool x0_bad])]) := by
  simp only [r23_reader_here, goO_cond, goO_none, goO_some, goO_bind, goO_bindS, goS_cond, goS_none, goS_inl, goS_inr, goS_bind, goS_bindS]; kernel_rfl

noncomputable def r23_many_sects : List (Nat × Head) := []
noncomputable def r23_many_heads : List (Nat × Head) := []
noncomputable def r23_many_ctx (n : Nat) (C : Cal) : FCtx := { env := env, tab := tab C, loops := fun i => none, keep := [], ntmps := Tryd.f52.ntmps, results := Tryd.f52.results.toList, fuel := n, heads := r23_many_heads, sects := r23_many_sects, sectT := fun i => none }
theorem r23_many_run (n : Nat) (C : Cal) (x0 : Int) (x1 : Int) :
    bodyRun (r23_many_ctx n C) (bodyOf Tryd.f52) [.int .u8 x0, .int .i64 x1] [] = goO (r23_many n C x0 x1) (fun r => .ret (.bool r) []) := by
  simp only [r23_many, goO_cond, goO_none, goO_some, goO_bind, goO_bindS, goS_cond, goS_none, goS_inl, goS_inr, goS_bind, goS_bindS]; kernel_rfl

noncomputable def r23_text_sects : List (Nat × Head) := []
noncomputable def r23_text_heads : List (Nat × Head) := []
noncomputable def r23_text_ctx (n : Nat) (C : Cal) : FCtx := { env := env, tab := tab C, loops := fun i => none, keep := [], ntmps := Tryd.f53.ntmps, results := Tryd.f53.results.toList, fuel := n, heads := r23_text_heads, sects := r23_text_sects, sectT := fun i => none }
theorem r23_text_run (n : Nat) (C : Cal) (x0 : XE) :
    bodyRun (r23_text_ctx n C) (bodyOf Tryd.f53) [.agg x0.cells] [] = goO (r23_text n C x0) (fun r => .ret (.bool r) []) := by
  simp only [r23_text, goO_cond, goO_none, goO_some, goO_bind, goO_bindS, goS_cond, goS_none, goS_inl, goS_inr, goS_bind, goS_bindS]; kernel_rfl

noncomputable def xpath_deep_sects : List (Nat × Head) := []
noncomputable def xpath_deep_heads : List (Nat × Head) := [(0, { keep := [3, 7, 8, 9], grow := [], cells := [], out := [3], res := [2] })]
noncomputable def xpath_deep_l0_T (n : Nat) (C : Cal) (k : Nat) : Fr → St → K → KR → Out := fun fr st κ κp => match fr, st with
  | [(3, .int .i64 v0), (7, .slice (.exprs v1) false), (8, .int .i64 v2), (9, .int .i64 v3)], [] => goS (xpath_deep_l0 n C k v0 v1 v2 v3) (fun b => κ .normal [(3, .int .i64 b)] []) (fun _ => .fail)
  | _, _ => .fail
noncomputable def xpath_deep_ctx (n : Nat) (C : Cal) : FCtx := { env := env, tab := tab C, loops := fun i => bif Nat.beq i 0 then some (xpath_deep_l0_T n C n) else none, keep := [], ntmps := Tryd.f54.ntmps, results := Tryd.f54.results.toList, fuel := n, heads := xpath_deep_heads, sects := xpath_deep_sects, sectT := fun i => none }
theorem xpath_deep_l0_step (n : Nat) (C : Cal) (k : Nat) (κ : K) (κp : KR) (v0 : Int) (v1 : List XE) (v2 : Int) (v3 : Int) :
    loopStep (exec (xpath_deep_ctx n C) (loopBody 0 (bodyOf Tryd.f54))) 0 (look 0 xpath_deep_heads) κ κp (fun fr st => xpath_deep_l0_T n C k fr st κ κp) [(3, .int .i64 v0), (7, .slice (.exprs v1) false), (8, .int .i64 v2), (9, .int .i64 v3)] [] =
    goS (xpath_deep_l0 n C (k + 1) v0 v1 v2 v3) (fun b => κ .normal [(3, .int .i64 b)] []) (fun _ => .fail) := by
  simp only [xpath_deep_l0, goO_cond, goO_none, goO_some, goO_bind, goO_bindS, goS_cond, goS_none, goS_inl, goS_inr, goS_bind, goS_bindS]; kernel_rfl
theorem xpath_deep_run (n : Nat) (C : Cal) (x0 : XE) :
    bodyRun (xpath_deep_ctx n C) (bodyOf Tryd.f54) [.agg x0.cells] [] = goO (xpath_deep n C x0) (fun r => .ret (.int .i64 r) []) := by
  simp only [xpath_deep, goO_cond, goO_none, goO_some, goO_bind, goO_bindS, goS_cond, goS_none, goS_inl, goS_inr, goS_bind, goS_bindS]; kernel_rfl

noncomputable def xpath_right_s2_h : Head := { keep := [1, 2], grow := [], cells := [], out := [2, 22], res := [4] }
noncomputable def xpath_right_s8_h : Head := { keep := [2, 5, 6], grow := [], cells := [], out := [2, 5, 6, 52], res := [4] }
noncomputable def xpath_right_s12_h : Head := { keep := [2, 5, 6], grow := [], cells := [], out := [2, 6, 82], res := [4] }
noncomputable def xpath_right_s16_h : Head := { keep := [2, 6], grow := [], cells := [], out := [2, 6, 120], res := [4] }
noncomputable def xpath_right_sects : List (Nat × Head) := [(2, xpath_right_s2_h), (8, xpath_right_s8_h), (12, xpath_right_s12_h), (16, xpath_right_s16_h)]
noncomputable def xpath_right_heads : List (Nat × Head) := [(0, { keep := [6, 7, 130, 131, 132], grow := [], cells := [], out := [], res := [4] })]
noncomputable def xpath_right_s2_T (n : Nat) (C : Cal) : Fr → St → K → KR → Out := fun fr st κ κp => match fr, st with
  | [(1, .bool v0), (2, .ptr 2 0)], [(2, .cells [.int .u8 v1_k, .int .i64 v1_p, .int .u8 v1_a, .int .u8 v1_t, .int .i64 v1_n, .str v1_s, .slice (.exprs v1_l) false])] => goO (xpath_right_s2 n C v0 (XE.mk v1_k v1_p v1_a v1_t v1_n v1_s v1_l)) (fun b => κ .normal [(2, .ptr 2 0), (22, .bool b)] [(2, .cells (XE.mk v1_k v1_p v1_a v1_t v1_n v1_s v1_l).cells)])
  | _, _ => .fail
noncomputable def xpath_right_s8_T (n : Nat) (C : Cal) : Fr → St → K → KR → Out := fun fr st κ κp => match fr, st with
  | [(2, .ptr 2 0), (5, .ptr 5 0), (6, .int .i64 v0)], [(2, .cells [.int .u8 v1_k, .int .i64 v1_p, .int .u8 v1_a, .int .u8 v1_t, .int .i64 v1_n, .str v1_s, .slice (.exprs v1_l) false]), (5, .cells [.int .i64 v2, .int .i64 v3, .int .u8 v4, .str v5])] => goO (xpath_right_s8 n C (XE.mk v1_k v1_p v1_a v1_t v1_n v1_s v1_l) v2 v3 v4 v5) (fun b => κ .normal [(2, .ptr 2 0), (5, .ptr 5 0), (6, .int .i64 v0), (52, .bool b)] [(2, .cells (XE.mk v1_k v1_p v1_a v1_t v1_n v1_s v1_l).cells), (5, .cells [.int .i64 v2, .int .i64 v3, .int .u8 v4, .str v5])])
  | _, _ => .fail
noncomputable def xpath_right_s12_T (n : Nat) (C : Cal) : Fr → St → K → KR → Out := fun fr st κ κp => match fr, st with
  | [(2, .ptr 2 0), (5, .ptr 5 0), (6, .int .i64 v0)], [(2, .cells [.int .u8 v1_k, .int .i64 v1_p, .int .u8 v1_a, .int .u8 v1_t, .int .i64 v1_n, .str v1_s, .slice (.exprs v1_l) false]), (5, .cells [.int .i64 v2, .int .i64 v3, .int .u8 v4, .str v5])] => goO (xpath_right_s12 n C v0 (XE.mk v1_k v1_p v1_a v1_t v1_n v1_s v1_l) v2 v3 v4 v5) (fun b => κ .normal [(2, .ptr 2 0), (6, .int .i64 v0), (82, .bool b)] [(2, .cells (XE.mk v1_k v1_p v1_a v1_t v1_n v1_s v1_l).cells)])
  | _, _ => .fail
noncomputable def xpath_right_s16_T (n : Nat) (C : Cal) : Fr → St → K → KR → Out := fun fr st κ κp => match fr, st with
  | [(2, .ptr 2 0), (6, .int .i64 v0)], [(2, .cells [.int .u8 v1_k, .int .i64 v1_p, .int .u8 v1_a, .int .u8 v1_t, .int .i64 v1_n, .str v1_s, .slice (.exprs v1_l) false])] => goO (xpath_right_s16 n C (XE.mk v1_k v1_p v1_a v1_t v1_n v1_s v1_l)) (fun b => κ .normal [(2, .ptr 2 0), (6, .int .i64 v0), (120, .bool b)] [(2, .cells (XE.mk v1_k v1_p v1_a v1_t v1_n v1_s v1_l).cells)])
  | _, _ => .fail
noncomputable def xpath_right_l0_T (n : Nat) (C : Cal) (k : Nat) : Fr → St → K → KR → Out := fun fr st κ κp => match fr, st with
  | [(6, .int .i64 v0), (7, .bool v1), (130, .slice (.exprs v2) false), (131, .int .i64 v3), (132, .int .i64 v4)], [] => goS (xpath_right_l0 n C k v0 v1 v2 v3 v4) (fun b => κ .normal [] []) (fun b => κ .ret [(4, .bool false)] [])
  | _, _ => .fail
noncomputable def xpath_right_ctx (n : Nat) (C : Cal) : FCtx := { env := env, tab := tab C, loops := fun i => bif Nat.beq i 0 then some (xpath_right_l0_T n C n) else none, keep := [], ntmps := Tryd.f55.ntmps, results := Tryd.f55.results.toList, fuel := n, heads := xpath_right_heads, sects := xpath_right_sects, sectT := fun i => bif Nat.beq i 16 then some (xpath_right_s16_T n C) else bif Nat.beq i 12 then some (xpath_right_s12_T n C) else bif Nat.beq i 8 then some (xpath_right_s8_T n C) else bif Nat.beq i 2 then some (xpath_right_s2_T n C) else none }
theorem xpath_right_l0_step (n : Nat) (C : Cal) (k : Nat) (κ : K) (κp : KR) (v0 : Int) (v1 : Bool) (v2 : List XE) (v3 : Int) (v4 : Int) :
    loopStep (exec (xpath_right_ctx n C) (loopBody 0 (bodyOf Tryd.f55))) 0 (look 0 xpath_right_heads) κ κp (fun fr st => xpath_right_l0_T n C k fr st κ κp) [(6, .int .i64 v0), (7, .bool v1), (130, .slice (.exprs v2) false), (131, .int .i64 v3), (132, .int .i64 v4)] [] =
    goS (xpath_right_l0 n C (k + 1) v0 v1 v2 v3 v4) (fun b => κ .normal [] []) (fun b => κ .ret [(4, .bool false)] []) := by
  simp only [xpath_right_l0, goO_cond, goO_none, goO_some, goO_bind, goO_bindS, goS_cond, goS_none, goS_inl, goS_inr, goS_bind, goS_bindS]; kernel_rfl
theorem xpath_right_s2_step (n : Nat) (C : Cal) (κ : K) (κp : KR) (v0 : Bool) (v1 : XE) :
    exec (xpath_right_ctx n C) (sectBody 2 (bodyOf Tryd.f55)) [(1, .bool v0), (2, .ptr 2 0)] [(2, .cells v1.cells)] (sectEnd xpath_right_s2_h κ) κp =
    goO (xpath_right_s2 n C v0 v1) (fun b => κ .normal [(2, .ptr 2 0), (22, .bool b)] [(2, .cells v1.cells)]) := by
  simp only [xpath_right_s2, goO_cond, goO_none, goO_some, goO_bind, goO_bindS, goS_cond, goS_none, goS_inl, goS_inr, goS_bind, goS_bindS]; kernel_rfl
theorem xpath_right_s8_step (n : Nat) (C : Cal) (κ : K) (κp : KR) (v0 : Int) (v1 : XE) (v2 : Int) (v3 : Int) (v4 : Int) (v5 : Bytes) :
    exec (xpath_right_ctx n C) (sectBody 8 (bodyOf Tryd.f55)) [(2, .ptr 2 0), (5, .ptr 5 0), (6, .int .i64 v0)] [(2, .cells v1.cells), (5, .cells [.int .i64 v2, .int .i64 v3, .int .u8 v4, .str v5])] (sectEnd xpath_right_s8_h κ) κp =
    goO (xpath_right_s8 n C v1 v2 v3 v4 v5) (fun b => κ .normal [(2, .ptr 2 0), (5, .ptr 5 0), (6, .int .i64 v0), (52, .bool b)] [(2, .cells v1.cells), (5, .cells [.int .i64 v2, .int .i64 v3, .int .u8 v4, .str v5])]) := by
  simp only [xpath_right_s8, goO_cond, goO_none, goO_some, goO_bind, goO_bindS, goS_cond, goS_none, goS_inl, goS_inr, goS_bind, goS_bindS]; kernel_rfl
theorem xpath_right_s12_step (n : Nat) (C : Cal) (κ : K) (κp : KR) (v0 : Int) (v1 : XE) (v2 : Int) (v3 : Int) (v4 : Int) (v5 : Bytes) :
    exec (xpath_right_ctx n C) (sectBody 12 (bodyOf Tryd.f55)) [(2, .ptr 2 0), (5, .ptr 5 0), (6, .int .i64 v0)] [(2, .cells v1.cells), (5, .cells [.int .i64 v2, .int .i64 v3, .int .u8 v4, .str v5])] (sectEnd xpath_right_s12_h κ) κp =
    goO (xpath_right_s12 n C v0 v1 v2 v3 v4 v5) (fun b => κ .normal [(2, .ptr 2 0), (6, .int .i64 v0), (82, .bool b)] [(2, .cells v1.cells)]) := by
  simp only [xpath_right_s12, goO_cond, goO_none, goO_some, goO_bind, goO_bindS, goS_cond, goS_none, goS_inl, goS_inr, goS_bind, goS_bindS]; kernel_rfl
theorem xpath_right_s16_step (n : Nat) (C : Cal) (κ : K) (κp : KR) (v0 : Int) (v1 : XE) :
    exec (xpath_right_ctx n C) (sectBody 16 (bodyOf Tryd.f55)) [(2, .ptr 2 0), (6, .int .i64 v0)] [(2, .cells v1.cells)] (sectEnd xpath_right_s16_h κ) κp =
    goO (xpath_right_s16 n C v1) (fun b => κ .normal [(2, .ptr 2 0), (6, .int .i64 v0), (120, .bool b)] [(2, .cells v1.cells)]) := by
  simp only [xpath_right_s16, goO_cond, goO_none, goO_some, goO_bind, goO_bindS, goS_cond, goS_none, goS_inl, goS_inr, goS_bind, goS_bindS]; kernel_rfl
theorem xpath_right_run (n : Nat) (C : Cal) (x0 : XE) (x1 : Bool) :
    bodyRun (xpath_right_ctx n C) (bodyOf Tryd.f55) [.agg x0.cells, .bool x1] [] = goO (xpath_right n C x0 x1) (fun r => .ret (.bool r) []) := by
  simp only [xpath_right, goO_cond, goO_none, goO_some, goO_bind, goO_bindS, goS_cond, goS_none, goS_inl, goS_inr, goS_bind, goS_bindS]; kernel_rfl

noncomputable def check_checker_own_s38_h : Head := { keep := [0, 3, 5], grow := [], cells := [], out := [0, 5, 69], res := [8] }
noncomputable def check_checker_own_s44_h : Head := { keep := [5, 9, 10], grow := [], cells := [], out := [97], res := [8] }
noncomputable def check_checker_own_sects : List (Nat × Head) := [(38, check_checker_own_s38_h), (44, check_checker_own_s44_h)]
noncomputable def check_checker_own_heads : List (Nat × Head) := []
noncomputable def check_checker_own_s38_T (n : Nat) (C : Cal) : Fr → St → K → KR → Out := fun fr st κ κp => match fr, st with
  | [(0, .ptr 1000 0), (3, .bool v0), (5, .ptr 5 0)], [(1000, .cells [.map 1001, .gsl 300000]), (1001, .map [.int .i64, .int .i64] v1), (300000, .gbuf (.strs v2) true), (5, .cells [.int .u8 v3_k, .int .i64 v3_p, .int .u8 v3_a, .int .u8 v3_t, .int .i64 v3_n, .str v3_s, .slice (.exprs v3_l) false])] => goO (check_checker_own_s38 n C v0 (XE.mk v3_k v3_p v3_a v3_t v3_n v3_s v3_l)) (fun b => κ .normal [(0, .ptr 1000 0), (5, .ptr 5 0), (69, .bool b)] [(1000, .cells [.map 1001, .gsl 300000]), (1001, .map [.int .i64, .int .i64] v1), (300000, .gbuf (.strs v2) true), (5, .cells (XE.mk v3_k v3_p v3_a v3_t v3_n v3_s v3_l).cells)])
  | _, _ => .fail
noncomputable def check_checker_own_s44_T (n : Nat) (C : Cal) : Fr → St → K → KR → Out := fun fr st κ κp => match fr, st with
  | [(5, .ptr 5 0), (9, .ptr 9 0), (10, .bool v0)], [(5, .cells [.int .u8 v1_k, .int .i64 v1_p, .int .u8 v1_a, .int .u8 v1_t, .int .i64 v1_n, .str v1_s, .slice (.exprs v1_l) false]), (9, .cells [.int .i64 v2, .int .i64 v3]), (1000, .cells [.map 1001, .gsl 300000]), (1001, .map [.int .i64, .int .i64] v4), (300000, .gbuf (.strs v5) true)] => goO (check_checker_own_s44 n C v0 (XE.mk v1_k v1_p v1_a v1_t v1_n v1_s v1_l) v2 v3) (fun b => κ .normal [(97, .bool b)] [(1000, .cells [.map 1001, .gsl 300000]), (1001, .map [.int .i64, .int .i64] v4), (300000, .gbuf (.strs v5) true)])
  | _, _ => .fail
noncomputable def check_checker_own_ctx (n : Nat) (C : Cal) : FCtx := { env := env, tab := tab C, loops := fun i => none, keep := [], ntmps := Tryd.f56.ntmps, results := Tryd.f56.results.toList, fuel := n, heads := check_checker_own_heads, sects := check_checker_own_sects, sectT := fun i => bif Nat.beq i 44 then some (check_checker_own_s44_T n C) else bif Nat.beq i 38 then some (check_checker_own_s38_T n C) else none }
theorem check_checker_own_s38_step (n : Nat) (C : Cal) (κ : K) (κp : KR) (v0 : Bool) (v1 : List (Bytes × List Cell)) (v2 : List Bytes) (v3 : XE) :
    exec (check_checker_own_ctx n C) (sectBody 38 (bodyOf Tryd.f56)) [(0, .ptr 1000 0), (3, .bool v0), (5, .ptr 5 0)] [(1000, .cells [.map 1001, .gsl 300000]), (1001, .map [.int .i64, .int .i64] v1), (300000, .gbuf (.strs v2) true), (5, .cells v3.cells)] (sectEnd check_checker_own_s38_h κ) κp =
    goO (check_checker_own_s38 n C v0 v3) (fun b => κ .normal [(0, .ptr 1000 0), (5, .ptr 5 0), (69, .bool b)] [(1000, .cells [.map 1001, .gsl 300000]), (1001, .map [.int .i64, .int .i64] v1), (300000, .gbuf (.strs v2) true), (5, .cells v3.cells)]) := by
  simp only [check_checker_own_s38, goO_cond, goO_none, goO_some, goO_bind, goO_bindS, goS_cond, goS_none, goS_inl, goS_inr, goS_bind, goS_bindS]; kernel_rfl
theorem check_checker_own_s44_step (n : Nat) (C : Cal) (κ : K) (κp : KR) (v0 : Bool) (v1 : XE) (v2 : Int) (v3 : Int) (v4 : List (Bytes × List Cell)) (v5 : List Bytes) :
    exec (check_checker_own_ctx n C) (sectBody 44 (bodyOf Tryd.f56)) [(5, .ptr 5 0), (9, .ptr 9 0), (10, .bool v0)] [(5, .cells v1.cells), (9, .cells [.int .i64 v2, .int .i64 v3]), (1000, .cells [.map 1001, .gsl 300000]), (1001, .map [.int .i64, .int .i64] v4), (300000, .gbuf (.strs v5) true)] (sectEnd check_checker_own_s44_h κ) κp =
    goO (check_checker_own_s44 n C v0 v1 v2 v3) (fun b => κ .normal [(97, .bool b)] [(1000, .cells [.map 1001, .gsl 300000]), (1001, .map [.int .i64, .int .i64] v4), (300000, .gbuf (.strs v5) true)]) := by
  simp only [check_checker_own_s44, goO_cond, goO_none, goO_some, goO_bind, goO_bindS, goS_cond, goS_none, goS_inl, goS_inr, goS_bind, goS_bindS]; kernel_rfl
theorem check_checker_own_run (n : Nat) (C : Cal) (x1 : XE) (x2 : Int) (x3 : Bool) (x0_functions : List (Bytes × List Cell)) (x0_bound : List Bytes) :
    bodyRun (check_checker_own_ctx n C) (bodyOf Tryd.f56) [.ptr 1000 0, .agg x1.cells, .int .i64 x2, .bool x3] [(1000, .cells [.map 1001, .gsl 1002]), (1001, .map [.int .i64, .int .i64] x0_functions), (1002, .gbuf (.strs x0_bound) true)] = goO (check_checker_own n C x1 x2 x3 x0_functions x0_bound) (fun r => .ret (.int .i64 r) [(1000, .cells [.map 1001, .gsl 500000]), (1001, .map [.int .i64, .int .i64] x0_functions), (500000, .gbuf (.strs x0_bound) true)]) := by
  simp only [check_checker_own, goO_cond, goO_none, goO_some, goO_bind, goO_bindS, goS_cond, goS_none, goS_inl, goS_inr, goS_bind, goS_bindS]; kernel_rfl

noncomputable def check_kid_sects : List (Nat × Head) := []
noncomputable def check_kid_heads : List (Nat × Head) := []
noncomputable def check_kid_ctx (n : Nat) (C : Cal) : FCtx := { env := env, tab := tab C, loops := fun i => none, keep := [], ntmps := Tryd.f57.ntmps, results := Tryd.f57.results.toList, fuel := n, heads := check_kid_heads, sects := check_kid_sects, sectT := fun i => none }
theorem check_kid_run (n : Nat) (C : Cal) (x0 : XE) (x1 : Int) (x2 : Int) :
    bodyRun (check_kid_ctx n C) (bodyOf Tryd.f57) [.agg x0.cells, .int .i64 x1, .int .i64 x2] [] = goO (check_kid n C x0 x1 x2) (fun r => .ret (.int .i64 r) []) := by
  simp only [check_kid, goO_cond, goO_none, goO_some, goO_bind, goO_bindS, goS_cond, goS_none, goS_inl, goS_inr, goS_bind, goS_bindS]; kernel_rfl

noncomputable def chars_Char_sects : List (Nat × Head) := []
noncomputable def chars_Char_heads : List (Nat × Head) := []
noncomputable def chars_Char_ctx (n : Nat) (C : Cal) : FCtx := { env := env, tab := tab C, loops := fun i => none, keep := [], ntmps := Tryd.f60.ntmps, results := Tryd.f60.results.toList, fuel := n, heads := chars_Char_heads, sects := chars_Char_sects, sectT := fun i => none }
theorem chars_Char_run (n : Nat) (C : Cal) (x0 : Int) :
    bodyRun (chars_Char_ctx n C) (bodyOf Tryd.f60) [.int .i32 x0] [] = goO (chars_Char n C x0) (fun r => .ret (.bool r) []) := by
  simp only [chars_Char, goO_cond, goO_none, goO_some, goO_bind, goO_bindS, goS_cond, goS_none, goS_inl, goS_inr, goS_bind, goS_bindS]; kernel_rfl

noncomputable def r05_Next_sects : List (Nat × Head) := []
noncomputable def r05_Next_heads : List (Nat × Head) := [(1, { keep := [0, 1, 7, 8, 9], grow := [], cells := [], out := [7, 8], res := [4, 5] })]
noncomputable def r05_Next_l1_T (n : Nat) (C : Cal) (k : Nat) : Fr → St → K → KR → Out := fun fr st κ κp => match fr, st with
  | [(0, .str v0), (1, .int .i64 v1), (7, .int .i64 v2), (8, .int .i32 v3), (9, .int .i64 v4)], [] => goS (r05_Next_l1 n C k v0 v1 v2 v3 v4) (fun b => κ .normal [(7, .int .i64 v2), (8, .int .i32 b)] []) (fun b => κ .ret [(4, .int .i32 0), (5, .int .i64 0)] [])
  | _, _ => .fail
noncomputable def r05_Next_ctx (n : Nat) (C : Cal) : FCtx := { env := env, tab := tab C, loops := fun i => bif Nat.beq i 1 then some (r05_Next_l1_T n C n) else none, keep := [], ntmps := Tryd.f74.ntmps, results := Tryd.f74.results.toList, fuel := n, heads := r05_Next_heads, sects := r05_Next_sects, sectT := fun i => none }
theorem r05_Next_l1_step (n : Nat) (C : Cal) (k : Nat) (κ : K) (κp : KR) (v0 : Bytes) (v1 : Int) (v2 : Int) (v3 : Int) (v4 : Int) :
    loopStep (exec (r05_Next_ctx n C) (loopBody 1 (bodyOf Tryd.f74))) 1 (look 1 r05_Next_heads) κ κp (fun fr st => r05_Next_l1_T n C k fr st κ κp) [(0, .str v0), (1, .int .i64 v1), (7, .int .i64 v2), (8, .int .i32 v3), (9, .int .i64 v4)] [] =
    goS (r05_Next_l1 n C (k + 1) v0 v1 v2 v3 v4) (fun b => κ .normal [(7, .int .i64 v2), (8, .int .i32 b)] []) (fun b => κ .ret [(4, .int .i32 0), (5, .int .i64 0)] []) := by
  simp only [r05_Next_l1, goO_cond, goO_none, goO_some, goO_bind, goO_bindS, goS_cond, goS_none, goS_inl, goS_inr, goS_bind, goS_bindS]; kernel_rfl
theorem r05_Next_run (n : Nat) (C : Cal) (x0 : Bytes) (x1 : Int) :
    bodyRun (r05_Next_ctx n C) (bodyOf Tryd.f74) [.str x0, .int .i64 x1] [] = goO (r05_Next n C x0 x1) (fun r => .ret (.tup [.int .i32 r.1, .int .i64 r.2]) []) := by
  simp only [r05_Next, goO_cond, goO_none, goO_some, goO_bind, goO_bindS, goS_cond, goS_none, goS_inl, goS_inr, goS_bind, goS_bindS]; kernel_rfl

noncomputable def r05_Char_sects : List (Nat × Head) := []
noncomputable def r05_Char_heads : List (Nat × Head) := []
noncomputable def r05_Char_ctx (n : Nat) (C : Cal) : FCtx := { env := env, tab := tab C, loops := fun i => none, keep := [], ntmps := Tryd.f75.ntmps, results := Tryd.f75.results.toList, fuel := n, heads := r05_Char_heads, sects := r05_Char_sects, sectT := fun i => none }
theorem r05_Char_run (n : Nat) (C : Cal) (x0 : Int) :
    bodyRun (r05_Char_ctx n C) (bodyOf Tryd.f75) [.int .i32 x0] [] = goO (r05_Char n C x0) (fun r => .ret (.bool r) []) := by
  simp only [r05_Char, goO_cond, goO_none, goO_some, goO_bind, goO_bindS, goS_cond, goS_none, goS_inl, goS_inr, goS_bind, goS_bindS]; kernel_rfl

noncomputable def r05_Blank_sects : List (Nat × Head) := []
noncomputable def r05_Blank_heads : List (Nat × Head) := [(0, { keep := [0, 3], grow := [], cells := [], out := [], res := [2] })]
noncomputable def r05_Blank_l0_T (n : Nat) (C : Cal) (k : Nat) : Fr → St → K → KR → Out := fun fr st κ κp => match fr, st with
  | [(0, .str v0), (3, .int .i64 v1)], [] => goS (r05_Blank_l0 n C k v0 v1) (fun b => κ .normal [] []) (fun b => κ .ret [(2, .bool false)] [])
  | _, _ => .fail
noncomputable def r05_Blank_ctx (n : Nat) (C : Cal) : FCtx := { env := env, tab := tab C, loops := fun i => bif Nat.beq i 0 then some (r05_Blank_l0_T n C n) else none, keep := [], ntmps := Tryd.f76.ntmps, results := Tryd.f76.results.toList, fuel := n, heads := r05_Blank_heads, sects := r05_Blank_sects, sectT := fun i => none }
theorem r05_Blank_l0_step (n : Nat) (C : Cal) (k : Nat) (κ : K) (κp : KR) (v0 : Bytes) (v1 : Int) :
    loopStep (exec (r05_Blank_ctx n C) (loopBody 0 (bodyOf Tryd.f76))) 0 (look 0 r05_Blank_heads) κ κp (fun fr st => r05_Blank_l0_T n C k fr st κ κp) [(0, .str v0), (3, .int .i64 v1)] [] =
    goS (r05_Blank_l0 n C (k + 1) v0 v1) (fun b => κ .normal [] []) (fun b => κ .ret [(2, .bool false)] []) := by
  simp only [r05_Blank_l0, goO_cond, goO_none, goO_some, goO_bind, goO_bindS, goS_cond, goS_none, goS_inl, goS_inr, goS_bind, goS_bindS]; kernel_rfl
theorem r05_Blank_run (n : Nat) (C : Cal) (x0 : Bytes) :
    bodyRun (r05_Blank_ctx n C) (bodyOf Tryd.f76) [.str x0] [] = goO (r05_Blank n C x0) (fun r => .ret (.bool r) []) := by
  simp only [r05_Blank, goO_cond, goO_none, goO_some, goO_bind, goO_bindS, goS_cond, goS_none, goS_inl, goS_inr, goS_bind, goS_bindS]; kernel_rfl

noncomputable def r22_comment_sects : List (Nat × Head) := []
noncomputable def r22_comment_heads : List (Nat × Head) := [(0, { keep := [0, 1, 5], grow := [], cells := [], out := [], res := [4] })]
noncomputable def r22_comment_l0_T (n : Nat) (C : Cal) (k : Nat) : Fr → St → K → KR → Out := fun fr st κ κp => match fr, st with
  | [(0, .str v0), (1, .int .i64 v1), (5, .int .i64 v2)], [] => goS (r22_comment_l0 n C k v0 v1 v2) (fun b => κ .normal [] []) (fun b => κ .ret [(4, .int .i64 b)] [])
  | _, _ => .fail
noncomputable def r22_comment_ctx (n : Nat) (C : Cal) : FCtx := { env := env, tab := tab C, loops := fun i => bif Nat.beq i 0 then some (r22_comment_l0_T n C n) else none, keep := [], ntmps := Tryd.f77.ntmps, results := Tryd.f77.results.toList, fuel := n, heads := r22_comment_heads, sects := r22_comment_sects, sectT := fun i => none }
theorem r22_comment_l0_step (n : Nat) (C : Cal) (k : Nat) (κ : K) (κp : KR) (v0 : Bytes) (v1 : Int) (v2 : Int) :
    loopStep (exec (r22_comment_ctx n C) (loopBody 0 (bodyOf Tryd.f77))) 0 (look 0 r22_comment_heads) κ κp (fun fr st => r22_comment_l0_T n C k fr st κ κp) [(0, .str v0), (1, .int .i64 v1), (5, .int .i64 v2)] [] =
    goS (r22_comment_l0 n C (k + 1) v0 v1 v2) (fun b => κ .normal [] []) (fun b => κ .ret [(4, .int .i64 b)] []) := by
  simp only [r22_comment_l0, goO_cond, goO_none, goO_some, goO_bind, goO_bindS, goS_cond, goS_none, goS_inl, goS_inr, goS_bind, goS_bindS]; kernel_rfl
theorem r22_comment_run (n : Nat) (C : Cal) (x0 : Bytes) (x1 : Int) :
    bodyRun (r22_comment_ctx n C) (bodyOf Tryd.f77) [.str x0, .int .i64 x1] [] = goO (r22_comment n C x0 x1) (fun r => .ret (.int .i64 r) []) := by
  simp only [r22_comment, goO_cond, goO_none, goO_some, goO_bind, goO_bindS, goS_cond, goS_none, goS_inl, goS_inr, goS_bind, goS_bindS]; kernel_rfl

noncomputable def r22_token_sects : List (Nat × Head) := []
noncomputable def r22_token_heads : List (Nat × Head) := [(0, { keep := [0, 1, 4, 16, 17], grow := [], cells := [], out := [4], res := [4, 5, 6] })]
noncomputable def r22_token_l0_T (n : Nat) (C : Cal) (k : Nat) : Fr → St → K → KR → Out := fun fr st κ κp => match fr, st with
  | [(0, .str v0), (1, .int .i64 v1), (4, .ptr 4 0), (16, .slice (.strs v2) false), (17, .int .i64 v3)], [(4, .cells [.int .u8 0, .str [], .int .i64 0, .int .i64 0])] => goS (r22_token_l0 n C k v0 v1 v2 v3) (fun b => κ .normal [(4, .ptr 4 0)] [(4, .cells b.cells)]) (fun b => κ .ret [(4, .ptr 4 0), (5, .int .i64 b.1), (6, .int .i64 0)] [(4, .cells b.2.cells)])
  | _, _ => .fail
noncomputable def r22_token_ctx (n : Nat) (C : Cal) : FCtx := { env := env, tab := tab C, loops := fun i => bif Nat.beq i 0 then some (r22_token_l0_T n C n) else none, keep := [], ntmps := Tryd.f78.ntmps, results := Tryd.f78.results.toList, fuel := n, heads := r22_token_heads, sects := r22_token_sects, sectT := fun i => none }
theorem r22_token_l0_step (n : Nat) (C : Cal) (k : Nat) (κ : K) (κp : KR) (v0 : Bytes) (v1 : Int) (v2 : List Bytes) (v3 : Int) :
    loopStep (exec (r22_token_ctx n C) (loopBody 0 (bodyOf Tryd.f78))) 0 (look 0 r22_token_heads) κ κp (fun fr st => r22_token_l0_T n C k fr st κ κp) [(0, .str v0), (1, .int .i64 v1), (4, .ptr 4 0), (16, .slice (.strs v2) false), (17, .int .i64 v3)] [(4, .cells (XT.mk 0 [] 0 0).cells)] =
    goS (r22_token_l0 n C (k + 1) v0 v1 v2 v3) (fun b => κ .normal [(4, .ptr 4 0)] [(4, .cells b.cells)]) (fun b => κ .ret [(4, .ptr 4 0), (5, .int .i64 b.1), (6, .int .i64 0)] [(4, .cells b.2.cells)]) := by
  simp only [r22_token_l0, goO_cond, goO_none, goO_some, goO_bind, goO_bindS, goS_cond, goS_none, goS_inl, goS_inr, goS_bind, goS_bindS]; kernel_rfl
theorem r22_token_run (n : Nat) (C : Cal) (x0 : Bytes) (x1 : Int) :
    bodyRun (r22_token_ctx n C) (bodyOf Tryd.f78) [.str x0, .int .i64 x1] [] = goO (r22_token n C x0 x1) (fun r => .ret (.tup [.agg r.1.cells, .int .i64 r.2.1, .int .i64 r.2.2]) []) := by
  simp only [r22_token, goO_cond, goO_none, goO_some, goO_bind, goO_bindS, goS_cond, goS_none, goS_inl, goS_inr, goS_bind, goS_bindS]; kernel_rfl

noncomputable def r23_reader_single_s4_h : Head := { keep := [0, 2, 3], grow := [], cells := [], out := [0, 2, 3, 9], res := [2] }
noncomputable def r23_reader_single_s8_h : Head := { keep := [0, 2, 3], grow := [], cells := [], out := [0, 2, 3, 25], res := [2] }
noncomputable def r23_reader_single_sects : List (Nat × Head) := [(4, r23_reader_single_s4_h), (8, r23_reader_single_s8_h)]
noncomputable def r23_reader_single_heads : List (Nat × Head) := []
noncomputable def r23_reader_single_s4_T (n : Nat) (C : Cal) : Fr → St → K → KR → Out := fun fr st κ κp => match fr, st with
  | [(0, .ptr 1000 0), (2, .ptr 2 0), (3, .int .i64 v0)], [(1000, .cells [.slice (.toks v1) false, .int .i64 v2, .bool v3]), (2, .cells [.int .u8 0, .int .i64 0, .int .u8 0, .int .u8 0, .int .i64 0, .str [], .slice (.exprs []) false])] => goO (r23_reader_single_s4 n C v1 v2 v3) (fun b => κ .normal [(0, .ptr 1000 0), (2, .ptr 2 0), (3, .int .i64 v0), (9, .bool b.1)] [(1000, .cells [.slice (.toks v1) false, .int .i64 v2, .bool v3]), (2, .cells b.2.cells)])
  | _, _ => .fail
noncomputable def r23_reader_single_s8_T (n : Nat) (C : Cal) : Fr → St → K → KR → Out := fun fr st κ κp => match fr, st with
  | [(0, .ptr 1000 0), (2, .ptr 2 0), (3, .int .i64 v0)], [(1000, .cells [.slice (.toks v1) false, .int .i64 v2, .bool v3]), (2, .cells [.int .u8 v4_k, .int .i64 v4_p, .int .u8 v4_a, .int .u8 v4_t, .int .i64 v4_n, .str v4_s, .slice (.exprs v4_l) false])] => goO (r23_reader_single_s8 n C v1 v2 v3) (fun b => κ .normal [(0, .ptr 1000 0), (2, .ptr 2 0), (3, .int .i64 v0), (25, .bool b)] [(1000, .cells [.slice (.toks v1) false, .int .i64 v2, .bool v3]), (2, .cells (XE.mk v4_k v4_p v4_a v4_t v4_n v4_s v4_l).cells)])
  | _, _ => .fail
noncomputable def r23_reader_single_ctx (n : Nat) (C : Cal) : FCtx := { env := env, tab := tab C, loops := fun i => none, keep := [], ntmps := Tryd.f79.ntmps, results := Tryd.f79.results.toList, fuel := n, heads := r23_reader_single_heads, sects := r23_reader_single_sects, sectT := fun i => bif Nat.beq i 8 then some (r23_reader_single_s8_T n C) else bif Nat.beq i 4 then some (r23_reader_single_s4_T n C) else none }
theorem r23_reader_single_s4_step (n : Nat) (C : Cal) (κ : K) (κp : KR) (v0 : Int) (v1 : List XT) (v2 : Int) (v3 : Bool) :
    exec (r23_reader_single_ctx n C) (sectBody 4 (bodyOf Tryd.f79)) [(0, .ptr 1000 0), (2, .ptr 2 0), (3, .int .i64 v0)] [(1000, .cells [.slice (.toks v1) false, .int .i64 v2, .bool v3]), (2, .cells (XE.mk 0 0 0 0 0 [] []).cells)] (sectEnd r23_reader_single_s4_h κ) κp =
    goO (r23_reader_single_s4 n C v1 v2 v3) (fun b => κ .normal [(0, .ptr 1000 0), (2, .ptr 2 0), (3, .int .i64 v0), (9, .bool b.1)] [(1000, .cells [.slice (.toks v1) false, .int .i64 v2, .bool v3]), (2, .cells b.2.cells)]) := by
  simp only [r23_reader_single_s4, goO_cond, goO_none, goO_some, goO_bind, goO_bindS, goS_cond, goS_none, goS_inl, goS_inr, goS_bind, goS_bindS]; kernel_rfl
theorem r23_reader_single_s8_step (n : Nat) (C : Cal) (κ : K) (κp : KR) (v0 : Int) (v1 : List XT) (v2 : Int) (v3 : Bool) (v4 : XE) :
    exec (r23_reader_single_ctx n C) (sectBody 8 (bodyOf Tryd.f79)) [(0, .ptr 1000 0), (2, .ptr 2 0), (3, .int .i64 v0)] [(1000, .cells [.slice (.toks v1) false, .int .i64 v2, .bool v3]), (2, .cells v4.cells)] (sectEnd r23_reader_single_s8_h κ) κp =
    goO (r23_reader_single_s8 n C v1 v2 v3) (fun b => κ .normal [(0, .ptr 1000 0), (2, .ptr 2 0), (3, .int .i64 v0), (25, .bool b)] [(1000, .cells [.slice (.toks v1) false, .int .i64 v2, .bool v3]), (2, .cells v4.cells)]) := by
  simp only [r23_reader_single_s8, goO_cond, goO_none, goO_some, goO_bind, goO_bindS, goS_cond, goS_none, goS_inl, goS_inr, goS_bind, goS_bindS]; kernel_rfl
theorem r23_reader_single_run (n : Nat) (C : Cal) (x0_l : List XT) (x0_i : Int) (x0_bad : Bool) :
    bodyRun (r23_reader_single_ctx n C) (bodyOf Tryd.f79) [.ptr 1000 0] [(1000, .cells [.slice (.toks x0_l) false, .int .i64 x0_i, .bool x0_bad])] = goO (r23_reader_single n C x0_l x0_i x0_bad) (fun r => .ret (.agg r.1.cells) [(1000, .cells [.slice (.toks x0_l) false, .int .i64 r.2.1, .bool r.2.2])]) := by
  simp only [r23_reader_single, goO_cond, goO_none, goO_some, goO_bind, goO_bindS, goS_cond, goS_none, goS_inl, goS_inr, goS_bind, goS_bindS]; kernel_rfl

noncomputable def r23_reader_sign_sects : List (Nat × Head) := []
noncomputable def r23_reader_sign_heads : List (Nat × Head) := []
noncomputable def r23_reader_sign_ctx (n : Nat) (C : Cal) : FCtx := { env := env, tab := tab C, loops := fun i => none, keep := [], ntmps := Tryd.f80.ntmps, results := Tryd.f80.results.toList, fuel := n, heads := r23_reader_sign_heads, sects := r23_reader_sign_sects, sectT := fun i => none }
theorem r23_reader_sign_run (n : Nat) (C : Cal) (x1 : Int) (x2 : Bytes) (x0_l : List XT) (x0_i : Int) (x0_bad : Bool) :
    bodyRun (r23_reader_sign_ctx n C) (bodyOf Tryd.f80) [.ptr 1000 0, .int .i64 x1, .str x2] [(1000, .cells [.slice (.toks x0_l) false, .int .i64 x0_i, .bool x0_bad])] = goO (r23_reader_sign n C x1 x2 x0_l x0_i x0_bad) (fun r => .ret (.bool r) [(1000, .cells [.slice (.toks x0_l) false, .int .i64 x0_i, .bool x0_bad])]) := by
  simp only [r23_reader_sign, goO_cond, goO_none, goO_some, goO_bind, goO_bindS, goS_cond, goS_none, goS_inl, goS_inr, goS_bind, goS_bindS]; kernel_rfl

noncomputable def r23_reader_is_sects : List (Nat × Head) := []
noncomputable def r23_reader_is_heads : List (Nat × Head) := []
noncomputable def r23_reader_is_ctx (n : Nat) (C : Cal) : FCtx := { env := env, tab := tab C, loops := fun i => none, keep := [], ntmps := Tryd.f81.ntmps, results := Tryd.f81.results.toList, fuel := n, heads := r23_reader_is_heads, sects := r23_reader_is_sects, sectT := fun i => none }
theorem r23_reader_is_run (n : Nat) (C : Cal) (x1 : Bytes) (x0_l : List XT) (x0_i : Int) (x0_bad : Bool) :
    bodyRun (r23_reader_is_ctx n C) (bodyOf Tryd.f81) [.ptr 1000 0, .str x1] [(1000, .cells [.slice (.toks x0_l) false, .int .i64 x0_i, .bool x0_bad])] = goO (r23_reader_is n C x1 x0_l x0_i x0_bad) (fun r => .ret (.bool r.1) [(1000, .cells [.slice (.toks x0_l) false, .int .i64 r.2, .bool x0_bad])]) := by
  simp only [r23_reader_is, goO_cond, goO_none, goO_some, goO_bind, goO_bindS, goS_cond, goS_none, goS_inl, goS_inr, goS_bind, goS_bindS]; kernel_rfl

noncomputable def r23_reader_tok_sects : List (Nat × Head) := []
noncomputable def r23_reader_tok_heads : List (Nat × Head) := []
noncomputable def r23_reader_tok_ctx (n : Nat) (C : Cal) : FCtx := { env := env, tab := tab C, loops := fun i => none, keep := [], ntmps := Tryd.f82.ntmps, results := Tryd.f82.results.toList, fuel := n, heads := r23_reader_tok_heads, sects := r23_reader_tok_sects, sectT := fun i => none }
theorem r23_reader_tok_run (n : Nat) (C : Cal) (x1 : Int) (x0_l : List XT) (x0_i : Int) (x0_bad : Bool) :
    bodyRun (r23_reader_tok_ctx n C) (bodyOf Tryd.f82) [.ptr 1000 0, .int .i64 x1] [(1000, .cells [.slice (.toks x0_l) false, .int .i64 x0_i, .bool x0_bad])] = goO (r23_reader_tok n C x1 x0_l x0_i x0_bad) (fun r => .ret (.agg r.cells) [(1000, .cells [.slice (.toks x0_l) false, .int .i64 x0_i, .bool x0_bad])]) := by
  simp only [r23_reader_tok, goO_cond, goO_none, goO_some, goO_bind, goO_bindS, goS_cond, goS_none, goS_inl, goS_inr, goS_bind, goS_bindS]; kernel_rfl

noncomputable def r23_kids_sects : List (Nat × Head) := []
noncomputable def r23_kids_heads : List (Nat × Head) := []
noncomputable def r23_kids_ctx (n : Nat) (C : Cal) : FCtx := { env := env, tab := tab C, loops := fun i => none, keep := [], ntmps := Tryd.f83.ntmps, results := Tryd.f83.results.toList, fuel := n, heads := r23_kids_heads, sects := r23_kids_sects, sectT := fun i => none }
theorem r23_kids_run (n : Nat) (C : Cal) (x0 : Int) :
    bodyRun (r23_kids_ctx n C) (bodyOf Tryd.f83) [.int .u8 x0] [] = goO (r23_kids n C x0) (fun r => .ret (.int .i64 r) []) := by
  simp only [r23_kids, goO_cond, goO_none, goO_some, goO_bind, goO_bindS, goS_cond, goS_none, goS_inl, goS_inr, goS_bind, goS_bindS]; kernel_rfl

noncomputable def r05_Texts_sects : List (Nat × Head) := []
noncomputable def r05_Texts_heads : List (Nat × Head) := [(0, { keep := [0, 3], grow := [], cells := [], out := [], res := [2] })]
noncomputable def r05_Texts_l0_T (n : Nat) (C : Cal) (k : Nat) : Fr → St → K → KR → Out := fun fr st κ κp => match fr, st with
  | [(0, .str v0), (3, .int .i64 v1)], [] => goS (r05_Texts_l0 n C k v0 v1) (fun b => κ .normal [] []) (fun b => κ .ret [(2, .bool false)] [])
  | _, _ => .fail
noncomputable def r05_Texts_ctx (n : Nat) (C : Cal) : FCtx := { env := env, tab := tab C, loops := fun i => bif Nat.beq i 0 then some (r05_Texts_l0_T n C n) else none, keep := [], ntmps := Tryd.f84.ntmps, results := Tryd.f84.results.toList, fuel := n, heads := r05_Texts_heads, sects := r05_Texts_sects, sectT := fun i => none }
theorem r05_Texts_l0_step (n : Nat) (C : Cal) (k : Nat) (κ : K) (κp : KR) (v0 : Bytes) (v1 : Int) :
    loopStep (exec (r05_Texts_ctx n C) (loopBody 0 (bodyOf Tryd.f84))) 0 (look 0 r05_Texts_heads) κ κp (fun fr st => r05_Texts_l0_T n C k fr st κ κp) [(0, .str v0), (3, .int .i64 v1)] [] =
    goS (r05_Texts_l0 n C (k + 1) v0 v1) (fun b => κ .normal [] []) (fun b => κ .ret [(2, .bool false)] []) := by
  simp only [r05_Texts_l0, goO_cond, goO_none, goO_some, goO_bind, goO_bindS, goS_cond, goS_none, goS_inl, goS_inr, goS_bind, goS_bindS]; kernel_rfl
theorem r05_Texts_run (n : Nat) (C : Cal) (x0 : Bytes) :
    bodyRun (r05_Texts_ctx n C) (bodyOf Tryd.f84) [.str x0] [] = goO (r05_Texts n C x0) (fun r => .ret (.bool r) []) := by
  simp only [r05_Texts, goO_cond, goO_none, goO_some, goO_bind, goO_bindS, goS_cond, goS_none, goS_inl, goS_inr, goS_bind, goS_bindS]; kernel_rfl

noncomputable def r05_Name_sects : List (Nat × Head) := []
noncomputable def r05_Name_heads : List (Nat × Head) := [(0, { keep := [0, 3], grow := [], cells := [], out := [], res := [2] })]
noncomputable def r05_Name_l0_T (n : Nat) (C : Cal) (k : Nat) : Fr → St → K → KR → Out := fun fr st κ κp => match fr, st with
  | [(0, .str v0), (3, .int .i64 v1)], [] => goS (r05_Name_l0 n C k v0 v1) (fun b => κ .normal [] []) (fun b => κ .ret [(2, .bool false)] [])
  | _, _ => .fail
noncomputable def r05_Name_ctx (n : Nat) (C : Cal) : FCtx := { env := env, tab := tab C, loops := fun i => bif Nat.beq i 0 then some (r05_Name_l0_T n C n) else none, keep := [], ntmps := Tryd.f85.ntmps, results := Tryd.f85.results.toList, fuel := n, heads := r05_Name_heads, sects := r05_Name_sects, sectT := fun i => none }
theorem r05_Name_l0_step (n : Nat) (C : Cal) (k : Nat) (κ : K) (κp : KR) (v0 : Bytes) (v1 : Int) :
    loopStep (exec (r05_Name_ctx n C) (loopBody 0 (bodyOf Tryd.f85))) 0 (look 0 r05_Name_heads) κ κp (fun fr st => r05_Name_l0_T n C k fr st κ κp) [(0, .str v0), (3, .int .i64 v1)] [] =
    goS (r05_Name_l0 n C (k + 1) v0 v1) (fun b => κ .normal [] []) (fun b => κ .ret [(2, .bool false)] []) := by
  simp only [r05_Name_l0, goO_cond, goO_none, goO_some, goO_bind, goO_bindS, goS_cond, goS_none, goS_inl, goS_inr, goS_bind, goS_bindS]; kernel_rfl
theorem r05_Name_run (n : Nat) (C : Cal) (x0 : Bytes) :
    bodyRun (r05_Name_ctx n C) (bodyOf Tryd.f85) [.str x0] [] = goO (r05_Name n C x0) (fun r => .ret (.bool r) []) := by
  simp only [r05_Name, goO_cond, goO_none, goO_some, goO_bind, goO_bindS, goS_cond, goS_none, goS_inl, goS_inr, goS_bind, goS_bindS]; kernel_rfl

noncomputable def r23_Special_sects : List (Nat × Head) := []
noncomputable def r23_Special_heads : List (Nat × Head) := []
noncomputable def r23_Special_ctx (n : Nat) (C : Cal) : FCtx := { env := env, tab := tab C, loops := fun i => none, keep := [], ntmps := Tryd.f86.ntmps, results := Tryd.f86.results.toList, fuel := n, heads := r23_Special_heads, sects := r23_Special_sects, sectT := fun i => none }
theorem r23_Special_run (n : Nat) (C : Cal) (x0 : Bytes) :
    bodyRun (r23_Special_ctx n C) (bodyOf Tryd.f86) [.str x0] [] = goO (r23_Special n C x0) (fun r => .ret (.bool r) []) := by
  simp only [r23_Special, goO_cond, goO_none, goO_some, goO_bind, goO_bindS, goS_cond, goS_none, goS_inl, goS_inr, goS_bind, goS_bindS]; kernel_rfl

noncomputable def r23_among_sects : List (Nat × Head) := []
noncomputable def r23_among_heads : List (Nat × Head) := [(0, { keep := [0, 1, 5], grow := [], cells := [], out := [], res := [4] })]
noncomputable def r23_among_l0_T (n : Nat) (C : Cal) (k : Nat) : Fr → St → K → KR → Out := fun fr st κ κp => match fr, st with
  | [(0, .str v0), (1, .slice (.strs v1) false), (5, .int .i64 v2)], [] => goS (r23_among_l0 n C k v0 v1 v2) (fun b => κ .normal [] []) (fun b => κ .ret [(4, .bool true)] [])
  | _, _ => .fail
noncomputable def r23_among_ctx (n : Nat) (C : Cal) : FCtx := { env := env, tab := tab C, loops := fun i => bif Nat.beq i 0 then some (r23_among_l0_T n C n) else none, keep := [], ntmps := Tryd.f87.ntmps, results := Tryd.f87.results.toList, fuel := n, heads := r23_among_heads, sects := r23_among_sects, sectT := fun i => none }
theorem r23_among_l0_step (n : Nat) (C : Cal) (k : Nat) (κ : K) (κp : KR) (v0 : Bytes) (v1 : List Bytes) (v2 : Int) :
    loopStep (exec (r23_among_ctx n C) (loopBody 0 (bodyOf Tryd.f87))) 0 (look 0 r23_among_heads) κ κp (fun fr st => r23_among_l0_T n C k fr st κ κp) [(0, .str v0), (1, .slice (.strs v1) false), (5, .int .i64 v2)] [] =
    goS (r23_among_l0 n C (k + 1) v0 v1 v2) (fun b => κ .normal [] []) (fun b => κ .ret [(4, .bool true)] []) := by
  simp only [r23_among_l0, goO_cond, goO_none, goO_some, goO_bind, goO_bindS, goS_cond, goS_none, goS_inl, goS_inr, goS_bind, goS_bindS]; kernel_rfl
theorem r23_among_run (n : Nat) (C : Cal) (x0 : Bytes) (x1 : List Bytes) :
    bodyRun (r23_among_ctx n C) (bodyOf Tryd.f87) [.str x0, .slice (.strs x1) false] [] = goO (r23_among n C x0 x1) (fun r => .ret (.bool r) []) := by
  simp only [r23_among, goO_cond, goO_none, goO_some, goO_bind, goO_bindS, goS_cond, goS_none, goS_inl, goS_inr, goS_bind, goS_bindS]; kernel_rfl

noncomputable def xpath_shape_right_sects : List (Nat × Head) := []
noncomputable def xpath_shape_right_heads : List (Nat × Head) := []
noncomputable def xpath_shape_right_ctx (n : Nat) (C : Cal) : FCtx := { env := env, tab := tab C, loops := fun i => none, keep := [], ntmps := Tryd.f88.ntmps, results := Tryd.f88.results.toList, fuel := n, heads := xpath_shape_right_heads, sects := xpath_shape_right_sects, sectT := fun i => none }
theorem xpath_shape_right_run (n : Nat) (C : Cal) (x0_least : Int) (x0_most : Int) (x0_text : Int) (x0_words : Bytes) (x1 : XE) :
    bodyRun (xpath_shape_right_ctx n C) (bodyOf Tryd.f88) [.agg [.int .i64 x0_least, .int .i64 x0_most, .int .u8 x0_text, .str x0_words], .agg x1.cells] [] = goO (xpath_shape_right n C x0_least x0_most x0_text x0_words x1) (fun r => .ret (.bool r) []) := by
  simp only [xpath_shape_right, goO_cond, goO_none, goO_some, goO_bind, goO_bindS, goS_cond, goS_none, goS_inl, goS_inr, goS_bind, goS_bindS]; kernel_rfl

noncomputable def check_updates_sects : List (Nat × Head) := []
noncomputable def check_updates_heads : List (Nat × Head) := []
noncomputable def check_updates_ctx (n : Nat) (C : Cal) : FCtx := { env := env, tab := tab C, loops := fun i => none, keep := [], ntmps := Tryd.f89.ntmps, results := Tryd.f89.results.toList, fuel := n, heads := check_updates_heads, sects := check_updates_sects, sectT := fun i => none }
theorem check_updates_run (n : Nat) (C : Cal) (x0 : Int) :
    bodyRun (check_updates_ctx n C) (bodyOf Tryd.f89) [.int .u8 x0] [] = goO (check_updates n C x0) (fun r => .ret (.bool r) []) := by
  simp only [check_updates, goO_cond, goO_none, goO_some, goO_bind, goO_bindS, goS_cond, goS_none, goS_inl, goS_inr, goS_bind, goS_bindS]; kernel_rfl

noncomputable def slices_Contains_sects : List (Nat × Head) := []
noncomputable def slices_Contains_heads : List (Nat × Head) := []
noncomputable def slices_Contains_ctx (n : Nat) (C : Cal) : FCtx := { env := env, tab := tab C, loops := fun i => none, keep := [], ntmps := Tryd.f90.ntmps, results := Tryd.f90.results.toList, fuel := n, heads := slices_Contains_heads, sects := slices_Contains_sects, sectT := fun i => none }
theorem slices_Contains_run (n : Nat) (C : Cal) (x0 : List Bytes) (x1 : Bytes) :
    bodyRun (slices_Contains_ctx n C) (bodyOf Tryd.f90) [.slice (.strs x0) false, .str x1] [] = goO (slices_Contains n C x0 x1) (fun r => .ret (.bool r) []) := by
  simp only [slices_Contains, goO_cond, goO_none, goO_some, goO_bind, goO_bindS, goS_cond, goS_none, goS_inl, goS_inr, goS_bind, goS_bindS]; kernel_rfl

noncomputable def chars_NameStart_sects : List (Nat × Head) := []
noncomputable def chars_NameStart_heads : List (Nat × Head) := []
noncomputable def chars_NameStart_ctx (n : Nat) (C : Cal) : FCtx := { env := env, tab := tab C, loops := fun i => none, keep := [], ntmps := Tryd.f107.ntmps, results := Tryd.f107.results.toList, fuel := n, heads := chars_NameStart_heads, sects := chars_NameStart_sects, sectT := fun i => none }
theorem chars_NameStart_run (n : Nat) (C : Cal) (x0 : Int) :
    bodyRun (chars_NameStart_ctx n C) (bodyOf Tryd.f107) [.int .i32 x0] [] = goO (chars_NameStart n C x0) (fun r => .ret (.bool r) []) := by
  simp only [chars_NameStart, goO_cond, goO_none, goO_some, goO_bind, goO_bindS, goS_cond, goS_none, goS_inl, goS_inr, goS_bind, goS_bindS]; kernel_rfl

noncomputable def chars_NameChar_sects : List (Nat × Head) := []
noncomputable def chars_NameChar_heads : List (Nat × Head) := []
noncomputable def chars_NameChar_ctx (n : Nat) (C : Cal) : FCtx := { env := env, tab := tab C, loops := fun i => none, keep := [], ntmps := Tryd.f108.ntmps, results := Tryd.f108.results.toList, fuel := n, heads := chars_NameChar_heads, sects := chars_NameChar_sects, sectT := fun i => none }
theorem chars_NameChar_run (n : Nat) (C : Cal) (x0 : Int) :
    bodyRun (chars_NameChar_ctx n C) (bodyOf Tryd.f108) [.int .i32 x0] [] = goO (chars_NameChar n C x0) (fun r => .ret (.bool r) []) := by
  simp only [chars_NameChar, goO_cond, goO_none, goO_some, goO_bind, goO_bindS, goS_cond, goS_none, goS_inl, goS_inr, goS_bind, goS_bindS]; kernel_rfl

noncomputable def r05_within_sects : List (Nat × Head) := []
noncomputable def r05_within_heads : List (Nat × Head) := []
noncomputable def r05_within_ctx (n : Nat) (C : Cal) : FCtx := { env := env, tab := tab C, loops := fun i => none, keep := [], ntmps := Tryd.f113.ntmps, results := Tryd.f113.results.toList, fuel := n, heads := r05_within_heads, sects := r05_within_sects, sectT := fun i => none }
theorem r05_within_run (n : Nat) (C : Cal) (x0 : Int) (x1 : Int) (x2 : Int) :
    bodyRun (r05_within_ctx n C) (bodyOf Tryd.f113) [.int .i32 x0, .int .i32 x1, .int .i32 x2] [] = goO (r05_within n C x0 x1 x2) (fun r => .ret (.bool r) []) := by
  simp only [r05_within, goO_cond, goO_none, goO_some, goO_bind, goO_bindS, goS_cond, goS_none, goS_inl, goS_inr, goS_bind, goS_bindS]; kernel_rfl

noncomputable def r22_whole_sects : List (Nat × Head) := []
noncomputable def r22_whole_heads : List (Nat × Head) := [(0, { keep := [0, 1, 7, 8], grow := [], cells := [], out := [0, 1, 7, 8], res := [4, 5, 6] })]
noncomputable def r22_whole_l0_T (n : Nat) (C : Cal) (k : Nat) : Fr → St → K → KR → Out := fun fr st κ κp => match fr, st with
  | [(0, .str v0), (1, .int .i64 v1), (7, .int .u64 v2), (8, .bool v3)], [] => goS (r22_whole_l0 n C k v0 v1 v2 v3) (fun b => κ .normal [(0, .str v0), (1, .int .i64 b.1), (7, .int .u64 b.2.1), (8, .bool b.2.2)] []) (fun _ => .fail)
  | _, _ => .fail
noncomputable def r22_whole_ctx (n : Nat) (C : Cal) : FCtx := { env := env, tab := tab C, loops := fun i => bif Nat.beq i 0 then some (r22_whole_l0_T n C n) else none, keep := [], ntmps := Tryd.f114.ntmps, results := Tryd.f114.results.toList, fuel := n, heads := r22_whole_heads, sects := r22_whole_sects, sectT := fun i => none }
theorem r22_whole_l0_step (n : Nat) (C : Cal) (k : Nat) (κ : K) (κp : KR) (v0 : Bytes) (v1 : Int) (v2 : Int) (v3 : Bool) :
    loopStep (exec (r22_whole_ctx n C) (loopBody 0 (bodyOf Tryd.f114))) 0 (look 0 r22_whole_heads) κ κp (fun fr st => r22_whole_l0_T n C k fr st κ κp) [(0, .str v0), (1, .int .i64 v1), (7, .int .u64 v2), (8, .bool v3)] [] =
    goS (r22_whole_l0 n C (k + 1) v0 v1 v2 v3) (fun b => κ .normal [(0, .str v0), (1, .int .i64 b.1), (7, .int .u64 b.2.1), (8, .bool b.2.2)] []) (fun _ => .fail) := by
  simp only [r22_whole_l0, goO_cond, goO_none, goO_some, goO_bind, goO_bindS, goS_cond, goS_none, goS_inl, goS_inr, goS_bind, goS_bindS]; kernel_rfl
theorem r22_whole_run (n : Nat) (C : Cal) (x0 : Bytes) (x1 : Int) :
    bodyRun (r22_whole_ctx n C) (bodyOf Tryd.f114) [.str x0, .int .i64 x1] [] = goO (r22_whole n C x0 x1) (fun r => .ret (.tup [.int .i64 r.1, .int .i64 r.2.1, .int .i64 r.2.2]) []) := by
  simp only [r22_whole, goO_cond, goO_none, goO_some, goO_bind, goO_bindS, goS_cond, goS_none, goS_inl, goS_inr, goS_bind, goS_bindS]; kernel_rfl

noncomputable def r22_quoted_sects : List (Nat × Head) := []
noncomputable def r22_quoted_heads : List (Nat × Head) := [(0, { keep := [0, 6, 7, 8], grow := [(7, false)], cells := [], out := [], res := [4, 5] })]
noncomputable def r22_quoted_l0_T (n : Nat) (C : Cal) (k : Nat) : Fr → St → K → KR → Out := fun fr st κ κp => match fr, st with
  | [(0, .str v0), (6, .int .u8 v1), (7, .gsl 300000), (8, .int .i64 v2)], [(300000, .gbuf (.bytes v3) true)] => goS (r22_quoted_l0 n C k v0 v1 v2 v3) (fun b => κ .normal [] []) (fun b => κ .ret [(4, .str b.1), (5, .int .i64 b.2)] [])
  | _, _ => .fail
noncomputable def r22_quoted_ctx (n : Nat) (C : Cal) : FCtx := { env := env, tab := tab C, loops := fun i => bif Nat.beq i 0 then some (r22_quoted_l0_T n C n) else none, keep := [], ntmps := Tryd.f115.ntmps, results := Tryd.f115.results.toList, fuel := n, heads := r22_quoted_heads, sects := r22_quoted_sects, sectT := fun i => none }
theorem r22_quoted_l0_step (n : Nat) (C : Cal) (k : Nat) (κ : K) (κp : KR) (v0 : Bytes) (v1 : Int) (v2 : Int) (v3 : List UInt8) :
    loopStep (exec (r22_quoted_ctx n C) (loopBody 0 (bodyOf Tryd.f115))) 0 (look 0 r22_quoted_heads) κ κp (fun fr st => r22_quoted_l0_T n C k fr st κ κp) [(0, .str v0), (6, .int .u8 v1), (7, .gsl 300000), (8, .int .i64 v2)] [(300000, .gbuf (.bytes v3) true)] =
    goS (r22_quoted_l0 n C (k + 1) v0 v1 v2 v3) (fun b => κ .normal [] []) (fun b => κ .ret [(4, .str b.1), (5, .int .i64 b.2)] []) := by
  simp only [r22_quoted_l0, goO_cond, goO_none, goO_some, goO_bind, goO_bindS, goS_cond, goS_none, goS_inl, goS_inr, goS_bind, goS_bindS]; kernel_rfl
theorem r22_quoted_run (n : Nat) (C : Cal) (x0 : Bytes) (x1 : Int) :
    bodyRun (r22_quoted_ctx n C) (bodyOf Tryd.f115) [.str x0, .int .i64 x1] [] = goO (r22_quoted n C x0 x1) (fun r => .ret (.tup [.str r.1, .int .i64 r.2]) []) := by
  simp only [r22_quoted, goO_cond, goO_none, goO_some, goO_bind, goO_bindS, goS_cond, goS_none, goS_inl, goS_inr, goS_bind, goS_bindS]; kernel_rfl

noncomputable def r22_name_sects : List (Nat × Head) := []
noncomputable def r22_name_heads : List (Nat × Head) := [(0, { keep := [0, 1, 5, 6], grow := [], cells := [], out := [1], res := [4] })]
noncomputable def r22_name_l0_T (n : Nat) (C : Cal) (k : Nat) : Fr → St → K → KR → Out := fun fr st κ κp => match fr, st with
  | [(0, .str v0), (1, .int .i64 v1), (5, .int .i32 v2), (6, .int .i64 v3)], [] => goS (r22_name_l0 n C k v0 v1 v2 v3) (fun b => κ .normal [(1, .int .i64 b)] []) (fun _ => .fail)
  | _, _ => .fail
noncomputable def r22_name_ctx (n : Nat) (C : Cal) : FCtx := { env := env, tab := tab C, loops := fun i => bif Nat.beq i 0 then some (r22_name_l0_T n C n) else none, keep := [], ntmps := Tryd.f116.ntmps, results := Tryd.f116.results.toList, fuel := n, heads := r22_name_heads, sects := r22_name_sects, sectT := fun i => none }
theorem r22_name_l0_step (n : Nat) (C : Cal) (k : Nat) (κ : K) (κp : KR) (v0 : Bytes) (v1 : Int) (v2 : Int) (v3 : Int) :
    loopStep (exec (r22_name_ctx n C) (loopBody 0 (bodyOf Tryd.f116))) 0 (look 0 r22_name_heads) κ κp (fun fr st => r22_name_l0_T n C k fr st κ κp) [(0, .str v0), (1, .int .i64 v1), (5, .int .i32 v2), (6, .int .i64 v3)] [] =
    goS (r22_name_l0 n C (k + 1) v0 v1 v2 v3) (fun b => κ .normal [(1, .int .i64 b)] []) (fun _ => .fail) := by
  simp only [r22_name_l0, goO_cond, goO_none, goO_some, goO_bind, goO_bindS, goS_cond, goS_none, goS_inl, goS_inr, goS_bind, goS_bindS]; kernel_rfl
theorem r22_name_run (n : Nat) (C : Cal) (x0 : Bytes) (x1 : Int) :
    bodyRun (r22_name_ctx n C) (bodyOf Tryd.f116) [.str x0, .int .i64 x1] [] = goO (r22_name n C x0 x1) (fun r => .ret (.int .i64 r) []) := by
  simp only [r22_name, goO_cond, goO_none, goO_some, goO_bind, goO_bindS, goS_cond, goS_none, goS_inl, goS_inr, goS_bind, goS_bindS]; kernel_rfl

noncomputable def r22_signs_sects : List (Nat × Head) := []
noncomputable def r22_signs_heads : List (Nat × Head) := []
noncomputable def r22_signs_ctx (n : Nat) (C : Cal) : FCtx := { env := env, tab := tab C, loops := fun i => none, keep := [], ntmps := Tryd.f117.ntmps, results := Tryd.f117.results.toList, fuel := n, heads := r22_signs_heads, sects := r22_signs_sects, sectT := fun i => none }
theorem r22_signs_run (n : Nat) (C : Cal) :
    bodyRun (r22_signs_ctx n C) (bodyOf Tryd.f117) [] [] = goO (r22_signs n C ) (fun r => .ret (.slice (.strs r) false) []) := by
  simp only [r22_signs, goO_cond, goO_none, goO_some, goO_bind, goO_bindS, goS_cond, goS_none, goS_inl, goS_inr, goS_bind, goS_bindS]; kernel_rfl

noncomputable def r23_reader_word_sects : List (Nat × Head) := []
noncomputable def r23_reader_word_heads : List (Nat × Head) := []
noncomputable def r23_reader_word_ctx (n : Nat) (C : Cal) : FCtx := { env := env, tab := tab C, loops := fun i => none, keep := [], ntmps := Tryd.f118.ntmps, results := Tryd.f118.results.toList, fuel := n, heads := r23_reader_word_heads, sects := r23_reader_word_sects, sectT := fun i => none }
theorem r23_reader_word_run (n : Nat) (C : Cal) (x1 : Int) (x2 : Bytes) (x0_l : List XT) (x0_i : Int) (x0_bad : Bool) :
    bodyRun (r23_reader_word_ctx n C) (bodyOf Tryd.f118) [.ptr 1000 0, .int .i64 x1, .str x2] [(1000, .cells [.slice (.toks x0_l) false, .int .i64 x0_i, .bool x0_bad])] = goO (r23_reader_word n C x1 x2 x0_l x0_i x0_bad) (fun r => .ret (.bool r) [(1000, .cells [.slice (.toks x0_l) false, .int .i64 x0_i, .bool x0_bad])]) := by
  simp only [r23_reader_word, goO_cond, goO_none, goO_some, goO_bind, goO_bindS, goS_cond, goS_none, goS_inl, goS_inr, goS_bind, goS_bindS]; kernel_rfl

noncomputable def r23_reader_clause_sects : List (Nat × Head) := []
noncomputable def r23_reader_clause_heads : List (Nat × Head) := []
noncomputable def r23_reader_clause_ctx (n : Nat) (C : Cal) : FCtx := { env := env, tab := tab C, loops := fun i => none, keep := [], ntmps := Tryd.f119.ntmps, results := Tryd.f119.results.toList, fuel := n, heads := r23_reader_clause_heads, sects := r23_reader_clause_sects, sectT := fun i => none }
theorem r23_reader_clause_run (n : Nat) (C : Cal) (x1 : Bytes) (x0_l : List XT) (x0_i : Int) (x0_bad : Bool) :
    bodyRun (r23_reader_clause_ctx n C) (bodyOf Tryd.f119) [.ptr 1000 0, .str x1] [(1000, .cells [.slice (.toks x0_l) false, .int .i64 x0_i, .bool x0_bad])] = goO (r23_reader_clause n C x1 x0_l x0_i x0_bad) (fun r => .ret (.agg r.1.cells) [(1000, .cells [.slice (.toks x0_l) false, .int .i64 r.2.1, .bool r.2.2])]) := by
  simp only [r23_reader_clause, goO_cond, goO_none, goO_some, goO_bind, goO_bindS, goS_cond, goS_none, goS_inl, goS_inr, goS_bind, goS_bindS]; kernel_rfl

noncomputable def r23_reader_next_sects : List (Nat × Head) := []
noncomputable def r23_reader_next_heads : List (Nat × Head) := []
noncomputable def r23_reader_next_ctx (n : Nat) (C : Cal) : FCtx := { env := env, tab := tab C, loops := fun i => none, keep := [], ntmps := Tryd.f120.ntmps, results := Tryd.f120.results.toList, fuel := n, heads := r23_reader_next_heads, sects := r23_reader_next_sects, sectT := fun i => none }
theorem r23_reader_next_run (n : Nat) (C : Cal) (x0_l : List XT) (x0_i : Int) (x0_bad : Bool) :
    bodyRun (r23_reader_next_ctx n C) (bodyOf Tryd.f120) [.ptr 1000 0] [(1000, .cells [.slice (.toks x0_l) false, .int .i64 x0_i, .bool x0_bad])] = goO (r23_reader_next n C x0_l x0_i x0_bad) (fun r => .ret (.agg r.1.cells) [(1000, .cells [.slice (.toks x0_l) false, .int .i64 r.2, .bool x0_bad])]) := by
  simp only [r23_reader_next, goO_cond, goO_none, goO_some, goO_bind, goO_bindS, goS_cond, goS_none, goS_inl, goS_inr, goS_bind, goS_bindS]; kernel_rfl

noncomputable def r23_reader_some_sects : List (Nat × Head) := []
noncomputable def r23_reader_some_heads : List (Nat × Head) := []
noncomputable def r23_reader_some_ctx (n : Nat) (C : Cal) : FCtx := { env := env, tab := tab C, loops := fun i => none, keep := [], ntmps := Tryd.f121.ntmps, results := Tryd.f121.results.toList, fuel := n, heads := r23_reader_some_heads, sects := r23_reader_some_sects, sectT := fun i => none }
theorem r23_reader_some_run (n : Nat) (C : Cal) (x1 : Int) (x0_l : List XT) (x0_i : Int) (x0_bad : Bool) :
    bodyRun (r23_reader_some_ctx n C) (bodyOf Tryd.f121) [.ptr 1000 0, .int .u8 x1] [(1000, .cells [.slice (.toks x0_l) false, .int .i64 x0_i, .bool x0_bad])] = goO (r23_reader_some n C x1 x0_l x0_i x0_bad) (fun r => .ret (.agg r.1.cells) [(1000, .cells [.slice (.toks x0_l) false, .int .i64 r.2.1, .bool r.2.2])]) := by
  simp only [r23_reader_some, goO_cond, goO_none, goO_some, goO_bind, goO_bindS, goS_cond, goS_none, goS_inl, goS_inr, goS_bind, goS_bindS]; kernel_rfl

noncomputable def r23_reader_must_sects : List (Nat × Head) := []
noncomputable def r23_reader_must_heads : List (Nat × Head) := []
noncomputable def r23_reader_must_ctx (n : Nat) (C : Cal) : FCtx := { env := env, tab := tab C, loops := fun i => none, keep := [], ntmps := Tryd.f122.ntmps, results := Tryd.f122.results.toList, fuel := n, heads := r23_reader_must_heads, sects := r23_reader_must_sects, sectT := fun i => none }
theorem r23_reader_must_run (n : Nat) (C : Cal) (x1 : Bytes) (x0_l : List XT) (x0_i : Int) (x0_bad : Bool) :
    bodyRun (r23_reader_must_ctx n C) (bodyOf Tryd.f122) [.ptr 1000 0, .str x1] [(1000, .cells [.slice (.toks x0_l) false, .int .i64 x0_i, .bool x0_bad])] = goO (r23_reader_must n C x1 x0_l x0_i x0_bad) (fun r => .ret (.tup []) [(1000, .cells [.slice (.toks x0_l) false, .int .i64 r.1, .bool r.2])]) := by
  simp only [r23_reader_must, goO_cond, goO_none, goO_some, goO_bind, goO_bindS, goS_cond, goS_none, goS_inl, goS_inr, goS_bind, goS_bindS]; kernel_rfl

noncomputable def r23_reader_updates_sects : List (Nat × Head) := []
noncomputable def r23_reader_updates_heads : List (Nat × Head) := []
noncomputable def r23_reader_updates_ctx (n : Nat) (C : Cal) : FCtx := { env := env, tab := tab C, loops := fun i => none, keep := [], ntmps := Tryd.f123.ntmps, results := Tryd.f123.results.toList, fuel := n, heads := r23_reader_updates_heads, sects := r23_reader_updates_sects, sectT := fun i => none }
theorem r23_reader_updates_run (n : Nat) (C : Cal) (x0_l : List XT) (x0_i : Int) (x0_bad : Bool) :
    bodyRun (r23_reader_updates_ctx n C) (bodyOf Tryd.f123) [.ptr 1000 0] [(1000, .cells [.slice (.toks x0_l) false, .int .i64 x0_i, .bool x0_bad])] = goO (r23_reader_updates n C x0_l x0_i x0_bad) (fun r => .ret (.bool r) [(1000, .cells [.slice (.toks x0_l) false, .int .i64 x0_i, .bool x0_bad])]) := by
  simp only [r23_reader_updates, goO_cond, goO_none, goO_some, goO_bind, goO_bindS, goS_cond, goS_none, goS_inl, goS_inr, goS_bind, goS_bindS]; kernel_rfl

noncomputable def r23_reader_update_sects : List (Nat × Head) := []
noncomputable def r23_reader_update_heads : List (Nat × Head) := []
noncomputable def r23_reader_update_ctx (n : Nat) (C : Cal) : FCtx := { env := env, tab := tab C, loops := fun i => none, keep := [], ntmps := Tryd.f124.ntmps, results := Tryd.f124.results.toList, fuel := n, heads := r23_reader_update_heads, sects := r23_reader_update_sects, sectT := fun i => none }
theorem r23_reader_update_run (n : Nat) (C : Cal) (x0_l : List XT) (x0_i : Int) (x0_bad : Bool) :
    bodyRun (r23_reader_update_ctx n C) (bodyOf Tryd.f124) [.ptr 1000 0] [(1000, .cells [.slice (.toks x0_l) false, .int .i64 x0_i, .bool x0_bad])] = goO (r23_reader_update n C x0_l x0_i x0_bad) (fun r => .ret (.agg r.1.cells) [(1000, .cells [.slice (.toks x0_l) false, .int .i64 r.2.1, .bool r.2.2])]) := by
  simp only [r23_reader_update, goO_cond, goO_none, goO_some, goO_bind, goO_bindS, goS_cond, goS_none, goS_inl, goS_inr, goS_bind, goS_bindS]; kernel_rfl

noncomputable def r23_reader_or_sects : List (Nat × Head) := []
noncomputable def r23_reader_or_heads : List (Nat × Head) := []
noncomputable def r23_reader_or_ctx (n : Nat) (C : Cal) : FCtx := { env := env, tab := tab C, loops := fun i => none, keep := [], ntmps := Tryd.f125.ntmps, results := Tryd.f125.results.toList, fuel := n, heads := r23_reader_or_heads, sects := r23_reader_or_sects, sectT := fun i => none }
theorem r23_reader_or_run (n : Nat) (C : Cal) (x0_l : List XT) (x0_i : Int) (x0_bad : Bool) :
    bodyRun (r23_reader_or_ctx n C) (bodyOf Tryd.f125) [.ptr 1000 0] [(1000, .cells [.slice (.toks x0_l) false, .int .i64 x0_i, .bool x0_bad])] = goO (r23_reader_or n C x0_l x0_i x0_bad) (fun r => .ret (.agg r.1.cells) [(1000, .cells [.slice (.toks x0_l) false, .int .i64 r.2.1, .bool r.2.2])]) := by
  simp only [r23_reader_or, goO_cond, goO_none, goO_some, goO_bind, goO_bindS, goS_cond, goS_none, goS_inl, goS_inr, goS_bind, goS_bindS]; kernel_rfl

noncomputable def r05_NameChar_sects : List (Nat × Head) := []
noncomputable def r05_NameChar_heads : List (Nat × Head) := []
noncomputable def r05_NameChar_ctx (n : Nat) (C : Cal) : FCtx := { env := env, tab := tab C, loops := fun i => none, keep := [], ntmps := Tryd.f126.ntmps, results := Tryd.f126.results.toList, fuel := n, heads := r05_NameChar_heads, sects := r05_NameChar_sects, sectT := fun i => none }
theorem r05_NameChar_run (n : Nat) (C : Cal) (x0 : Int) :
    bodyRun (r05_NameChar_ctx n C) (bodyOf Tryd.f126) [.int .i32 x0] [] = goO (r05_NameChar n C x0) (fun r => .ret (.bool r) []) := by
  simp only [r05_NameChar, goO_cond, goO_none, goO_some, goO_bind, goO_bindS, goS_cond, goS_none, goS_inl, goS_inr, goS_bind, goS_bindS]; kernel_rfl

noncomputable def r05_NameStart_sects : List (Nat × Head) := []
noncomputable def r05_NameStart_heads : List (Nat × Head) := []
noncomputable def r05_NameStart_ctx (n : Nat) (C : Cal) : FCtx := { env := env, tab := tab C, loops := fun i => none, keep := [], ntmps := Tryd.f127.ntmps, results := Tryd.f127.results.toList, fuel := n, heads := r05_NameStart_heads, sects := r05_NameStart_sects, sectT := fun i => none }
theorem r05_NameStart_run (n : Nat) (C : Cal) (x0 : Int) :
    bodyRun (r05_NameStart_ctx n C) (bodyOf Tryd.f127) [.int .i32 x0] [] = goO (r05_NameStart n C x0) (fun r => .ret (.bool r) []) := by
  simp only [r05_NameStart, goO_cond, goO_none, goO_some, goO_bind, goO_bindS, goS_cond, goS_none, goS_inl, goS_inr, goS_bind, goS_bindS]; kernel_rfl

noncomputable def chars_Name_sects : List (Nat × Head) := []
noncomputable def chars_Name_heads : List (Nat × Head) := [(0, { keep := [0, 6], grow := [], cells := [], out := [0], res := [2] })]
noncomputable def chars_Name_l0_T (n : Nat) (C : Cal) (k : Nat) : Fr → St → K → KR → Out := fun fr st κ κp => match fr, st with
  | [(0, .str v0), (6, .iter 6)], [(6, .iter v1 v2)] => goS (chars_Name_l0 n C k v1 v2) (fun b => κ .normal [(0, .str v0)] []) (fun b => κ .ret [(2, .bool false)] [])
  | _, _ => .fail
noncomputable def chars_Name_ctx (n : Nat) (C : Cal) : FCtx := { env := env, tab := tab C, loops := fun i => bif Nat.beq i 0 then some (chars_Name_l0_T n C n) else none, keep := [], ntmps := Tryd.f128.ntmps, results := Tryd.f128.results.toList, fuel := n, heads := chars_Name_heads, sects := chars_Name_sects, sectT := fun i => none }
theorem chars_Name_l0_step (n : Nat) (C : Cal) (k : Nat) (κ : K) (κp : KR) (v0 : Bytes) (v1 : Bytes) (v2 : Nat) :
    loopStep (exec (chars_Name_ctx n C) (loopBody 0 (bodyOf Tryd.f128))) 0 (look 0 chars_Name_heads) κ κp (fun fr st => chars_Name_l0_T n C k fr st κ κp) [(0, .str v0), (6, .iter 6)] [(6, .iter v1 v2)] =
    goS (chars_Name_l0 n C (k + 1) v1 v2) (fun b => κ .normal [(0, .str v0)] []) (fun b => κ .ret [(2, .bool false)] []) := by
  simp only [chars_Name_l0, goO_cond, goO_none, goO_some, goO_bind, goO_bindS, goS_cond, goS_none, goS_inl, goS_inr, goS_bind, goS_bindS]; kernel_rfl
theorem chars_Name_run (n : Nat) (C : Cal) (x0 : Bytes) :
    bodyRun (chars_Name_ctx n C) (bodyOf Tryd.f128) [.str x0] [] = goO (chars_Name n C x0) (fun r => .ret (.bool r) []) := by
  simp only [chars_Name, goO_cond, goO_none, goO_some, goO_bind, goO_bindS, goS_cond, goS_none, goS_inl, goS_inr, goS_bind, goS_bindS]; kernel_rfl

noncomputable def chars_Texts_sects : List (Nat × Head) := []
noncomputable def chars_Texts_heads : List (Nat × Head) := [(0, { keep := [0, 6], grow := [], cells := [], out := [0], res := [2] })]
noncomputable def chars_Texts_l0_T (n : Nat) (C : Cal) (k : Nat) : Fr → St → K → KR → Out := fun fr st κ κp => match fr, st with
  | [(0, .str v0), (6, .iter 6)], [(6, .iter v1 v2)] => goS (chars_Texts_l0 n C k v1 v2) (fun b => κ .normal [(0, .str v0)] []) (fun b => κ .ret [(2, .bool false)] [])
  | _, _ => .fail
noncomputable def chars_Texts_ctx (n : Nat) (C : Cal) : FCtx := { env := env, tab := tab C, loops := fun i => bif Nat.beq i 0 then some (chars_Texts_l0_T n C n) else none, keep := [], ntmps := Tryd.f129.ntmps, results := Tryd.f129.results.toList, fuel := n, heads := chars_Texts_heads, sects := chars_Texts_sects, sectT := fun i => none }
theorem chars_Texts_l0_step (n : Nat) (C : Cal) (k : Nat) (κ : K) (κp : KR) (v0 : Bytes) (v1 : Bytes) (v2 : Nat) :
    loopStep (exec (chars_Texts_ctx n C) (loopBody 0 (bodyOf Tryd.f129))) 0 (look 0 chars_Texts_heads) κ κp (fun fr st => chars_Texts_l0_T n C k fr st κ κp) [(0, .str v0), (6, .iter 6)] [(6, .iter v1 v2)] =
    goS (chars_Texts_l0 n C (k + 1) v1 v2) (fun b => κ .normal [(0, .str v0)] []) (fun b => κ .ret [(2, .bool false)] []) := by
  simp only [chars_Texts_l0, goO_cond, goO_none, goO_some, goO_bind, goO_bindS, goS_cond, goS_none, goS_inl, goS_inr, goS_bind, goS_bindS]; kernel_rfl
theorem chars_Texts_run (n : Nat) (C : Cal) (x0 : Bytes) :
    bodyRun (chars_Texts_ctx n C) (bodyOf Tryd.f129) [.str x0] [] = goO (chars_Texts n C x0) (fun r => .ret (.bool r) []) := by
  simp only [chars_Texts, goO_cond, goO_none, goO_some, goO_bind, goO_bindS, goS_cond, goS_none, goS_inl, goS_inr, goS_bind, goS_bindS]; kernel_rfl

noncomputable def xpath_called_sects : List (Nat × Head) := []
noncomputable def xpath_called_heads : List (Nat × Head) := []
noncomputable def xpath_called_ctx (n : Nat) (C : Cal) : FCtx := { env := env, tab := tab C, loops := fun i => none, keep := [], ntmps := Tryd.f130.ntmps, results := Tryd.f130.results.toList, fuel := 64, heads := xpath_called_heads, sects := xpath_called_sects, sectT := fun i => none }
theorem xpath_called_run (n : Nat) (C : Cal) (x0 : Bytes) :
    bodyRun (xpath_called_ctx n C) (bodyOf Tryd.f130) [.str x0] [] = goO (xpath_called n C x0) (fun r => .ret (.bool r) []) := by
  simp only [xpath_called, goO_cond, goO_none, goO_some, goO_bind, goO_bindS, goS_cond, goS_none, goS_inl, goS_inr, goS_bind, goS_bindS]; kernel_rfl

noncomputable def slices_Index_sects : List (Nat × Head) := []
noncomputable def slices_Index_heads : List (Nat × Head) := [(0, { keep := [0, 1, 7, 8], grow := [], cells := [], out := [], res := [4] })]
noncomputable def slices_Index_l0_T (n : Nat) (C : Cal) (k : Nat) : Fr → St → K → KR → Out := fun fr st κ κp => match fr, st with
  | [(0, .slice (.strs v0) false), (1, .str v1), (7, .int .i64 v2), (8, .int .i64 v3)], [] => goS (slices_Index_l0 n C k v0 v1 v2 v3) (fun b => κ .normal [] []) (fun b => κ .ret [(4, .int .i64 b)] [])
  | _, _ => .fail
noncomputable def slices_Index_ctx (n : Nat) (C : Cal) : FCtx := { env := env, tab := tab C, loops := fun i => bif Nat.beq i 0 then some (slices_Index_l0_T n C n) else none, keep := [], ntmps := Tryd.f132.ntmps, results := Tryd.f132.results.toList, fuel := n, heads := slices_Index_heads, sects := slices_Index_sects, sectT := fun i => none }
theorem slices_Index_l0_step (n : Nat) (C : Cal) (k : Nat) (κ : K) (κp : KR) (v0 : List Bytes) (v1 : Bytes) (v2 : Int) (v3 : Int) :
    loopStep (exec (slices_Index_ctx n C) (loopBody 0 (bodyOf Tryd.f132))) 0 (look 0 slices_Index_heads) κ κp (fun fr st => slices_Index_l0_T n C k fr st κ κp) [(0, .slice (.strs v0) false), (1, .str v1), (7, .int .i64 v2), (8, .int .i64 v3)] [] =
    goS (slices_Index_l0 n C (k + 1) v0 v1 v2 v3) (fun b => κ .normal [] []) (fun b => κ .ret [(4, .int .i64 b)] []) := by
  simp only [slices_Index_l0, goO_cond, goO_none, goO_some, goO_bind, goO_bindS, goS_cond, goS_none, goS_inl, goS_inr, goS_bind, goS_bindS]; kernel_rfl
theorem slices_Index_run (n : Nat) (C : Cal) (x0 : List Bytes) (x1 : Bytes) :
    bodyRun (slices_Index_ctx n C) (bodyOf Tryd.f132) [.slice (.strs x0) false, .str x1] [] = goO (slices_Index n C x0 x1) (fun r => .ret (.int .i64 r) []) := by
  simp only [slices_Index, goO_cond, goO_none, goO_some, goO_bind, goO_bindS, goS_cond, goS_none, goS_inl, goS_inr, goS_bind, goS_bindS]; kernel_rfl

noncomputable def chars_among_sects : List (Nat × Head) := []
noncomputable def chars_among_heads : List (Nat × Head) := [(0, { keep := [0, 7, 8, 9], grow := [], cells := [], out := [], res := [4] })]
noncomputable def chars_among_l0_T (n : Nat) (C : Cal) (k : Nat) : Fr → St → K → KR → Out := fun fr st κ κp => match fr, st with
  | [(0, .int .i32 v0), (7, .slice (.tab [.int .i32, .int .i32] v1) false), (8, .int .i64 v2), (9, .int .i64 v3)], [] => goS (chars_among_l0 n C k v0 v1 v2 v3) (fun b => κ .normal [] []) (fun b => κ .ret [(4, .bool true)] [])
  | _, _ => .fail
noncomputable def chars_among_ctx (n : Nat) (C : Cal) : FCtx := { env := env, tab := tab C, loops := fun i => bif Nat.beq i 0 then some (chars_among_l0_T n C n) else none, keep := [], ntmps := Tryd.f140.ntmps, results := Tryd.f140.results.toList, fuel := n, heads := chars_among_heads, sects := chars_among_sects, sectT := fun i => none }
theorem chars_among_l0_step (n : Nat) (C : Cal) (k : Nat) (κ : K) (κp : KR) (v0 : Int) (v1 : List (List Cell)) (v2 : Int) (v3 : Int) :
    loopStep (exec (chars_among_ctx n C) (loopBody 0 (bodyOf Tryd.f140))) 0 (look 0 chars_among_heads) κ κp (fun fr st => chars_among_l0_T n C k fr st κ κp) [(0, .int .i32 v0), (7, .slice (.tab [.int .i32, .int .i32] v1) false), (8, .int .i64 v2), (9, .int .i64 v3)] [] =
    goS (chars_among_l0 n C (k + 1) v0 v1 v2 v3) (fun b => κ .normal [] []) (fun b => κ .ret [(4, .bool true)] []) := by
  simp only [chars_among_l0, goO_cond, goO_none, goO_some, goO_bind, goO_bindS, goS_cond, goS_none, goS_inl, goS_inr, goS_bind, goS_bindS]; kernel_rfl
theorem chars_among_run (n : Nat) (C : Cal) (x0 : Int) (x1 : List (List Cell)) :
    bodyRun (chars_among_ctx n C) (bodyOf Tryd.f140) [.int .i32 x0, .slice (.tab [.int .i32, .int .i32] x1) false] [] = goO (chars_among n C x0 x1) (fun r => .ret (.bool r) []) := by
  simp only [chars_among, goO_cond, goO_none, goO_some, goO_bind, goO_bindS, goS_cond, goS_none, goS_inl, goS_inr, goS_bind, goS_bindS]; kernel_rfl

noncomputable def r23_reader_variable_sects : List (Nat × Head) := []
noncomputable def r23_reader_variable_heads : List (Nat × Head) := []
noncomputable def r23_reader_variable_ctx (n : Nat) (C : Cal) : FCtx := { env := env, tab := tab C, loops := fun i => none, keep := [], ntmps := Tryd.f145.ntmps, results := Tryd.f145.results.toList, fuel := n, heads := r23_reader_variable_heads, sects := r23_reader_variable_sects, sectT := fun i => none }
theorem r23_reader_variable_run (n : Nat) (C : Cal) (x0_l : List XT) (x0_i : Int) (x0_bad : Bool) :
    bodyRun (r23_reader_variable_ctx n C) (bodyOf Tryd.f145) [.ptr 1000 0] [(1000, .cells [.slice (.toks x0_l) false, .int .i64 x0_i, .bool x0_bad])] = goO (r23_reader_variable n C x0_l x0_i x0_bad) (fun r => .ret (.agg r.1.cells) [(1000, .cells [.slice (.toks x0_l) false, .int .i64 r.2.1, .bool r.2.2])]) := by
  simp only [r23_reader_variable, goO_cond, goO_none, goO_some, goO_bind, goO_bindS, goS_cond, goS_none, goS_inl, goS_inr, goS_bind, goS_bindS]; kernel_rfl

noncomputable def r23_reader_more_sects : List (Nat × Head) := []
noncomputable def r23_reader_more_heads : List (Nat × Head) := []
noncomputable def r23_reader_more_ctx (n : Nat) (C : Cal) : FCtx := { env := env, tab := tab C, loops := fun i => none, keep := [], ntmps := Tryd.f146.ntmps, results := Tryd.f146.results.toList, fuel := n, heads := r23_reader_more_heads, sects := r23_reader_more_sects, sectT := fun i => none }
theorem r23_reader_more_run (n : Nat) (C : Cal) (x1 : Bytes) (x0_l : List XT) (x0_i : Int) (x0_bad : Bool) :
    bodyRun (r23_reader_more_ctx n C) (bodyOf Tryd.f146) [.ptr 1000 0, .str x1] [(1000, .cells [.slice (.toks x0_l) false, .int .i64 x0_i, .bool x0_bad])] = goO (r23_reader_more n C x1 x0_l x0_i x0_bad) (fun r => .ret (.agg r.1.cells) [(1000, .cells [.slice (.toks x0_l) false, .int .i64 r.2.1, .bool r.2.2])]) := by
  simp only [r23_reader_more, goO_cond, goO_none, goO_some, goO_bind, goO_bindS, goS_cond, goS_none, goS_inl, goS_inr, goS_bind, goS_bindS]; kernel_rfl

noncomputable def r23_reader_no_sects : List (Nat × Head) := []
noncomputable def r23_reader_no_heads : List (Nat × Head) := []
noncomputable def r23_reader_no_ctx (n : Nat) (C : Cal) : FCtx := { env := env, tab := tab C, loops := fun i => none, keep := [], ntmps := Tryd.f147.ntmps, results := Tryd.f147.results.toList, fuel := n, heads := r23_reader_no_heads, sects := r23_reader_no_sects, sectT := fun i => none }
theorem r23_reader_no_run (n : Nat) (C : Cal) (x0_l : List XT) (x0_i : Int) (x0_bad : Bool) :
    bodyRun (r23_reader_no_ctx n C) (bodyOf Tryd.f147) [.ptr 1000 0] [(1000, .cells [.slice (.toks x0_l) false, .int .i64 x0_i, .bool x0_bad])] = goO (r23_reader_no n C x0_l x0_i x0_bad) (fun r => .ret (.tup []) [(1000, .cells [.slice (.toks x0_l) false, .int .i64 x0_i, .bool true])]) := by
  simp only [r23_reader_no, goO_cond, goO_none, goO_some, goO_bind, goO_bindS, goS_cond, goS_none, goS_inl, goS_inr, goS_bind, goS_bindS]; kernel_rfl

noncomputable def r23_reader_place_sects : List (Nat × Head) := []
noncomputable def r23_reader_place_heads : List (Nat × Head) := [(0, { keep := [0, 3, 4], grow := [], cells := [], out := [0], res := [2] })]
noncomputable def r23_reader_place_l0_T (n : Nat) (C : Cal) (k : Nat) : Fr → St → K → KR → Out := fun fr st κ κp => match fr, st with
  | [(0, .ptr 1000 0), (3, .slice (.strs v0) false), (4, .int .i64 v1)], [(1000, .cells [.slice (.toks v2) false, .int .i64 v3, .bool v4])] => goS (r23_reader_place_l0 n C k v0 v1 v2 v3 v4) (fun b => κ .normal [(0, .ptr 1000 0)] [(1000, .cells [.slice (.toks v2) false, .int .i64 b, .bool v4])]) (fun b => κ .ret [(2, .str b.1)] [(1000, .cells [.slice (.toks v2) false, .int .i64 b.2, .bool v4])])
  | _, _ => .fail
noncomputable def r23_reader_place_ctx (n : Nat) (C : Cal) : FCtx := { env := env, tab := tab C, loops := fun i => bif Nat.beq i 0 then some (r23_reader_place_l0_T n C n) else none, keep := [], ntmps := Tryd.f148.ntmps, results := Tryd.f148.results.toList, fuel := n, heads := r23_reader_place_heads, sects := r23_reader_place_sects, sectT := fun i => none }
theorem r23_reader_place_l0_step (n : Nat) (C : Cal) (k : Nat) (κ : K) (κp : KR) (v0 : List Bytes) (v1 : Int) (v2 : List XT) (v3 : Int) (v4 : Bool) :
    loopStep (exec (r23_reader_place_ctx n C) (loopBody 0 (bodyOf Tryd.f148))) 0 (look 0 r23_reader_place_heads) κ κp (fun fr st => r23_reader_place_l0_T n C k fr st κ κp) [(0, .ptr 1000 0), (3, .slice (.strs v0) false), (4, .int .i64 v1)] [(1000, .cells [.slice (.toks v2) false, .int .i64 v3, .bool v4])] =
    goS (r23_reader_place_l0 n C (k + 1) v0 v1 v2 v3 v4) (fun b => κ .normal [(0, .ptr 1000 0)] [(1000, .cells [.slice (.toks v2) false, .int .i64 b, .bool v4])]) (fun b => κ .ret [(2, .str b.1)] [(1000, .cells [.slice (.toks v2) false, .int .i64 b.2, .bool v4])]) := by
  simp only [r23_reader_place_l0, goO_cond, goO_none, goO_some, goO_bind, goO_bindS, goS_cond, goS_none, goS_inl, goS_inr, goS_bind, goS_bindS]; kernel_rfl
theorem r23_reader_place_run (n : Nat) (C : Cal) (x0_l : List XT) (x0_i : Int) (x0_bad : Bool) :
    bodyRun (r23_reader_place_ctx n C) (bodyOf Tryd.f148) [.ptr 1000 0] [(1000, .cells [.slice (.toks x0_l) false, .int .i64 x0_i, .bool x0_bad])] = goO (r23_reader_place n C x0_l x0_i x0_bad) (fun r => .ret (.str r.1) [(1000, .cells [.slice (.toks x0_l) false, .int .i64 r.2.1, .bool r.2.2])]) := by
  simp only [r23_reader_place, goO_cond, goO_none, goO_some, goO_bind, goO_bindS, goS_cond, goS_none, goS_inl, goS_inr, goS_bind, goS_bindS]; kernel_rfl

noncomputable def r23_reader_binary_sects : List (Nat × Head) := []
noncomputable def r23_reader_binary_heads : List (Nat × Head) := [(0, { keep := [0, 1, 4, 5, 6, 7], grow := [], cells := [], out := [4, 7], res := [4] }), (2, { keep := [0, 1, 4, 5, 6, 7, 8, 9, 10], grow := [], cells := [], out := [0, 1, 4, 5, 6, 7, 8, 9], res := [4] })]
noncomputable def r23_reader_binary_l2_T (n : Nat) (C : Cal) (k : Nat) : Fr → St → K → KR → Out := fun fr st κ κp => match fr, st with
  | [(0, .ptr 1000 0), (1, .int .i64 v0), (4, .ptr 4 0), (5, .slice (.strs v1) false), (6, .int .u8 v2), (7, .ptr 7 0), (8, .ptr 8 0), (9, .bool v3), (10, .int .i64 v4)], [(1000, .cells [.slice (.toks v5) false, .int .i64 v6, .bool v7]), (4, .cells [.int .u8 v8_k, .int .i64 v8_p, .int .u8 v8_a, .int .u8 v8_t, .int .i64 v8_n, .str v8_s, .slice (.exprs v8_l) false]), (7, .cells [.int .u8 v9_k, .int .i64 v9_p, .int .u8 v9_a, .int .u8 v9_t, .int .i64 v9_n, .str v9_s, .slice (.exprs v9_l) false]), (8, .cells [.int .u8 v10_k, .str v10_s, .int .i64 v10_n, .int .i64 v10_p])] => goS (r23_reader_binary_l2 n C k v0 v1 v3 v4 v5 v6 v7) (fun b => κ .normal [(0, .ptr 1000 0), (1, .int .i64 v0), (4, .ptr 4 0), (5, .slice (.strs v1) false), (6, .int .u8 v2), (7, .ptr 7 0), (8, .ptr 8 0), (9, .bool b)] [(1000, .cells [.slice (.toks v5) false, .int .i64 v6, .bool v7]), (4, .cells (XE.mk v8_k v8_p v8_a v8_t v8_n v8_s v8_l).cells), (7, .cells (XE.mk v9_k v9_p v9_a v9_t v9_n v9_s v9_l).cells), (8, .cells (XT.mk v10_k v10_s v10_n v10_p).cells)]) (fun _ => .fail)
  | _, _ => .fail
noncomputable def r23_reader_binary_l0_T (n : Nat) (C : Cal) (k : Nat) : Fr → St → K → KR → Out := fun fr st κ κp => match fr, st with
  | [(0, .ptr 1000 0), (1, .int .i64 v0), (4, .ptr 4 0), (5, .slice (.strs v1) false), (6, .int .u8 v2), (7, .ptr 7 0)], [(1000, .cells [.slice (.toks v3) false, .int .i64 v4, .bool v5]), (4, .cells [.int .u8 0, .int .i64 0, .int .u8 0, .int .u8 0, .int .i64 0, .str [], .slice (.exprs []) false]), (7, .cells [.int .u8 v7_k, .int .i64 v7_p, .int .u8 v7_a, .int .u8 v7_t, .int .i64 v7_n, .str v7_s, .slice (.exprs v7_l) false])] => goS (r23_reader_binary_l0 n C k v0 v1 v2 v3 v4 v5 (XE.mk v7_k v7_p v7_a v7_t v7_n v7_s v7_l)) (fun b => κ .normal [(4, .ptr 4 0), (7, .ptr 7 0)] [(4, .cells b.1.cells), (7, .cells b.2.1.cells), (1000, .cells [.slice (.toks v3) false, .int .i64 b.2.2.1, .bool b.2.2.2])]) (fun b => κ .ret [(4, .ptr 4 0)] [(4, .cells b.1.cells), (1000, .cells [.slice (.toks v3) false, .int .i64 b.2.1, .bool b.2.2])])
  | _, _ => .fail
noncomputable def r23_reader_binary_ctx (n : Nat) (C : Cal) : FCtx := { env := env, tab := tab C, loops := fun i => bif Nat.beq i 0 then some (r23_reader_binary_l0_T n C n) else bif Nat.beq i 2 then some (r23_reader_binary_l2_T n C n) else none, keep := [], ntmps := Tryd.f149.ntmps, results := Tryd.f149.results.toList, fuel := n, heads := r23_reader_binary_heads, sects := r23_reader_binary_sects, sectT := fun i => none }
theorem r23_reader_binary_l2_step (n : Nat) (C : Cal) (k : Nat) (κ : K) (κp : KR) (v0 : Int) (v1 : List Bytes) (v2 : Int) (v3 : Bool) (v4 : Int) (v5 : List XT) (v6 : Int) (v7 : Bool) (v8 : XE) (v9 : XE) (v10 : XT) :
    loopStep (exec (r23_reader_binary_ctx n C) (loopBody 2 (bodyOf Tryd.f149))) 2 (look 2 r23_reader_binary_heads) κ κp (fun fr st => r23_reader_binary_l2_T n C k fr st κ κp) [(0, .ptr 1000 0), (1, .int .i64 v0), (4, .ptr 4 0), (5, .slice (.strs v1) false), (6, .int .u8 v2), (7, .ptr 7 0), (8, .ptr 8 0), (9, .bool v3), (10, .int .i64 v4)] [(1000, .cells [.slice (.toks v5) false, .int .i64 v6, .bool v7]), (4, .cells v8.cells), (7, .cells v9.cells), (8, .cells v10.cells)] =
    goS (r23_reader_binary_l2 n C (k + 1) v0 v1 v3 v4 v5 v6 v7) (fun b => κ .normal [(0, .ptr 1000 0), (1, .int .i64 v0), (4, .ptr 4 0), (5, .slice (.strs v1) false), (6, .int .u8 v2), (7, .ptr 7 0), (8, .ptr 8 0), (9, .bool b)] [(1000, .cells [.slice (.toks v5) false, .int .i64 v6, .bool v7]), (4, .cells v8.cells), (7, .cells v9.cells), (8, .cells v10.cells)]) (fun _ => .fail) := by
  simp only [r23_reader_binary_l2, goO_cond, goO_none, goO_some, goO_bind, goO_bindS, goS_cond, goS_none, goS_inl, goS_inr, goS_bind, goS_bindS]; kernel_rfl
theorem r23_reader_binary_l0_step (n : Nat) (C : Cal) (k : Nat) (κ : K) (κp : KR) (v0 : Int) (v1 : List Bytes) (v2 : Int) (v3 : List XT) (v4 : Int) (v5 : Bool) (v7 : XE) :
    loopStep (exec (r23_reader_binary_ctx n C) (loopBody 0 (bodyOf Tryd.f149))) 0 (look 0 r23_reader_binary_heads) κ κp (fun fr st => r23_reader_binary_l0_T n C k fr st κ κp) [(0, .ptr 1000 0), (1, .int .i64 v0), (4, .ptr 4 0), (5, .slice (.strs v1) false), (6, .int .u8 v2), (7, .ptr 7 0)] [(1000, .cells [.slice (.toks v3) false, .int .i64 v4, .bool v5]), (4, .cells (XE.mk 0 0 0 0 0 [] []).cells), (7, .cells v7.cells)] =
    goS (r23_reader_binary_l0 n C (k + 1) v0 v1 v2 v3 v4 v5 v7) (fun b => κ .normal [(4, .ptr 4 0), (7, .ptr 7 0)] [(4, .cells b.1.cells), (7, .cells b.2.1.cells), (1000, .cells [.slice (.toks v3) false, .int .i64 b.2.2.1, .bool b.2.2.2])]) (fun b => κ .ret [(4, .ptr 4 0)] [(4, .cells b.1.cells), (1000, .cells [.slice (.toks v3) false, .int .i64 b.2.1, .bool b.2.2])]) := by
  simp only [r23_reader_binary_l0, goO_cond, goO_none, goO_some, goO_bind, goO_bindS, goS_cond, goS_none, goS_inl, goS_inr, goS_bind, goS_bindS]; kernel_rfl
theorem r23_reader_binary_run (n : Nat) (C : Cal) (x1 : Int) (x0_l : List XT) (x0_i : Int) (x0_bad : Bool) :
    bodyRun (r23_reader_binary_ctx n C) (bodyOf Tryd.f149) [.ptr 1000 0, .int .i64 x1] [(1000, .cells [.slice (.toks x0_l) false, .int .i64 x0_i, .bool x0_bad])] = goO (r23_reader_binary n C x1 x0_l x0_i x0_bad) (fun r => .ret (.agg r.1.cells) [(1000, .cells [.slice (.toks x0_l) false, .int .i64 r.2.1, .bool r.2.2])]) := by
  simp only [r23_reader_binary, goO_cond, goO_none, goO_some, goO_bind, goO_bindS, goS_cond, goS_none, goS_inl, goS_inr, goS_bind, goS_bindS]; kernel_rfl

noncomputable def r23_reader_minus_sects : List (Nat × Head) := []
noncomputable def r23_reader_minus_heads : List (Nat × Head) := []
noncomputable def r23_reader_minus_ctx (n : Nat) (C : Cal) : FCtx := { env := env, tab := tab C, loops := fun i => none, keep := [], ntmps := Tryd.f162.ntmps, results := Tryd.f162.results.toList, fuel := n, heads := r23_reader_minus_heads, sects := r23_reader_minus_sects, sectT := fun i => none }
theorem r23_reader_minus_run (n : Nat) (C : Cal) (x0_l : List XT) (x0_i : Int) (x0_bad : Bool) :
    bodyRun (r23_reader_minus_ctx n C) (bodyOf Tryd.f162) [.ptr 1000 0] [(1000, .cells [.slice (.toks x0_l) false, .int .i64 x0_i, .bool x0_bad])] = goO (r23_reader_minus n C x0_l x0_i x0_bad) (fun r => .ret (.agg r.1.cells) [(1000, .cells [.slice (.toks x0_l) false, .int .i64 r.2.1, .bool r.2.2])]) := by
  simp only [r23_reader_minus, goO_cond, goO_none, goO_some, goO_bind, goO_bindS, goS_cond, goS_none, goS_inl, goS_inr, goS_bind, goS_bindS]; kernel_rfl

noncomputable def r23_level_sects : List (Nat × Head) := []
noncomputable def r23_level_heads : List (Nat × Head) := []
noncomputable def r23_level_ctx (n : Nat) (C : Cal) : FCtx := { env := env, tab := tab C, loops := fun i => none, keep := [], ntmps := Tryd.f163.ntmps, results := Tryd.f163.results.toList, fuel := n, heads := r23_level_heads, sects := r23_level_sects, sectT := fun i => none }
theorem r23_level_run (n : Nat) (C : Cal) (x0 : Int) :
    bodyRun (r23_level_ctx n C) (bodyOf Tryd.f163) [.int .i64 x0] [] = goO (r23_level n C x0) (fun r => .ret (.tup [.slice (.strs r.1) false, .int .u8 r.2]) []) := by
  simp only [r23_level, goO_cond, goO_none, goO_some, goO_bind, goO_bindS, goS_cond, goS_none, goS_inl, goS_inr, goS_bind, goS_bindS]; kernel_rfl

noncomputable def r23_reader_union_sects : List (Nat × Head) := []
noncomputable def r23_reader_union_heads : List (Nat × Head) := [(0, { keep := [0, 2, 3], grow := [], cells := [], out := [2, 3], res := [2] })]
noncomputable def r23_reader_union_l0_T (n : Nat) (C : Cal) (k : Nat) : Fr → St → K → KR → Out := fun fr st κ κp => match fr, st with
  | [(0, .ptr 1000 0), (2, .ptr 2 0), (3, .ptr 3 0)], [(1000, .cells [.slice (.toks v0) false, .int .i64 v1, .bool v2]), (2, .cells [.int .u8 0, .int .i64 0, .int .u8 0, .int .u8 0, .int .i64 0, .str [], .slice (.exprs []) false]), (3, .cells [.int .u8 v4_k, .int .i64 v4_p, .int .u8 v4_a, .int .u8 v4_t, .int .i64 v4_n, .str v4_s, .slice (.exprs v4_l) false])] => goS (r23_reader_union_l0 n C k v0 v1 v2 (XE.mk v4_k v4_p v4_a v4_t v4_n v4_s v4_l)) (fun b => κ .normal [(2, .ptr 2 0), (3, .ptr 3 0)] [(2, .cells b.1.cells), (3, .cells b.2.1.cells), (1000, .cells [.slice (.toks v0) false, .int .i64 b.2.2.1, .bool b.2.2.2])]) (fun _ => .fail)
  | _, _ => .fail
noncomputable def r23_reader_union_ctx (n : Nat) (C : Cal) : FCtx := { env := env, tab := tab C, loops := fun i => bif Nat.beq i 0 then some (r23_reader_union_l0_T n C n) else none, keep := [], ntmps := Tryd.f172.ntmps, results := Tryd.f172.results.toList, fuel := n, heads := r23_reader_union_heads, sects := r23_reader_union_sects, sectT := fun i => none }
theorem r23_reader_union_l0_step (n : Nat) (C : Cal) (k : Nat) (κ : K) (κp : KR) (v0 : List XT) (v1 : Int) (v2 : Bool) (v4 : XE) :
    loopStep (exec (r23_reader_union_ctx n C) (loopBody 0 (bodyOf Tryd.f172))) 0 (look 0 r23_reader_union_heads) κ κp (fun fr st => r23_reader_union_l0_T n C k fr st κ κp) [(0, .ptr 1000 0), (2, .ptr 2 0), (3, .ptr 3 0)] [(1000, .cells [.slice (.toks v0) false, .int .i64 v1, .bool v2]), (2, .cells (XE.mk 0 0 0 0 0 [] []).cells), (3, .cells v4.cells)] =
    goS (r23_reader_union_l0 n C (k + 1) v0 v1 v2 v4) (fun b => κ .normal [(2, .ptr 2 0), (3, .ptr 3 0)] [(2, .cells b.1.cells), (3, .cells b.2.1.cells), (1000, .cells [.slice (.toks v0) false, .int .i64 b.2.2.1, .bool b.2.2.2])]) (fun _ => .fail) := by
  simp only [r23_reader_union_l0, goO_cond, goO_none, goO_some, goO_bind, goO_bindS, goS_cond, goS_none, goS_inl, goS_inr, goS_bind, goS_bindS]; kernel_rfl
theorem r23_reader_union_run (n : Nat) (C : Cal) (x0_l : List XT) (x0_i : Int) (x0_bad : Bool) :
    bodyRun (r23_reader_union_ctx n C) (bodyOf Tryd.f172) [.ptr 1000 0] [(1000, .cells [.slice (.toks x0_l) false, .int .i64 x0_i, .bool x0_bad])] = goO (r23_reader_union n C x0_l x0_i x0_bad) (fun r => .ret (.agg r.1.cells) [(1000, .cells [.slice (.toks x0_l) false, .int .i64 r.2.1, .bool r.2.2])]) := by
  simp only [r23_reader_union, goO_cond, goO_none, goO_some, goO_bind, goO_bindS, goS_cond, goS_none, goS_inl, goS_inr, goS_bind, goS_bindS]; kernel_rfl

noncomputable def r23_reader_path_sects : List (Nat × Head) := []
noncomputable def r23_reader_path_heads : List (Nat × Head) := []
noncomputable def r23_reader_path_ctx (n : Nat) (C : Cal) : FCtx := { env := env, tab := tab C, loops := fun i => none, keep := [], ntmps := Tryd.f174.ntmps, results := Tryd.f174.results.toList, fuel := n, heads := r23_reader_path_heads, sects := r23_reader_path_sects, sectT := fun i => none }
theorem r23_reader_path_run (n : Nat) (C : Cal) (x0_l : List XT) (x0_i : Int) (x0_bad : Bool) :
    bodyRun (r23_reader_path_ctx n C) (bodyOf Tryd.f174) [.ptr 1000 0] [(1000, .cells [.slice (.toks x0_l) false, .int .i64 x0_i, .bool x0_bad])] = goO (r23_reader_path n C x0_l x0_i x0_bad) (fun r => .ret (.agg r.1.cells) [(1000, .cells [.slice (.toks x0_l) false, .int .i64 r.2.1, .bool r.2.2])]) := by
  simp only [r23_reader_path, goO_cond, goO_none, goO_some, goO_bind, goO_bindS, goS_cond, goS_none, goS_inl, goS_inr, goS_bind, goS_bindS]; kernel_rfl

noncomputable def r23_reader_begins_sects : List (Nat × Head) := []
noncomputable def r23_reader_begins_heads : List (Nat × Head) := []
noncomputable def r23_reader_begins_ctx (n : Nat) (C : Cal) : FCtx := { env := env, tab := tab C, loops := fun i => none, keep := [], ntmps := Tryd.f175.ntmps, results := Tryd.f175.results.toList, fuel := n, heads := r23_reader_begins_heads, sects := r23_reader_begins_sects, sectT := fun i => none }
theorem r23_reader_begins_run (n : Nat) (C : Cal) (x0_l : List XT) (x0_i : Int) (x0_bad : Bool) :
    bodyRun (r23_reader_begins_ctx n C) (bodyOf Tryd.f175) [.ptr 1000 0] [(1000, .cells [.slice (.toks x0_l) false, .int .i64 x0_i, .bool x0_bad])] = goO (r23_reader_begins n C x0_l x0_i x0_bad) (fun r => .ret (.bool r) [(1000, .cells [.slice (.toks x0_l) false, .int .i64 x0_i, .bool x0_bad])]) := by
  simp only [r23_reader_begins, goO_cond, goO_none, goO_some, goO_bind, goO_bindS, goS_cond, goS_none, goS_inl, goS_inr, goS_bind, goS_bindS]; kernel_rfl

noncomputable def r23_reader_row_sects : List (Nat × Head) := []
noncomputable def r23_reader_row_heads : List (Nat × Head) := [(0, { keep := [0, 3, 4], grow := [], cells := [], out := [3, 4], res := [4] })]
noncomputable def r23_reader_row_l0_T (n : Nat) (C : Cal) (k : Nat) : Fr → St → K → KR → Out := fun fr st κ κp => match fr, st with
  | [(0, .ptr 1000 0), (3, .ptr 3 0), (4, .ptr 4 0)], [(1000, .cells [.slice (.toks v0) false, .int .i64 v1, .bool v2]), (3, .cells [.int .u8 v3_k, .int .i64 v3_p, .int .u8 v3_a, .int .u8 v3_t, .int .i64 v3_n, .str v3_s, .slice (.exprs v3_l) false]), (4, .cells [.int .u8 0, .int .i64 0, .int .u8 0, .int .u8 0, .int .i64 0, .str [], .slice (.exprs []) false])] => goS (r23_reader_row_l0 n C k v0 v1 v2 (XE.mk v3_k v3_p v3_a v3_t v3_n v3_s v3_l)) (fun b => κ .normal [(3, .ptr 3 0), (4, .ptr 4 0)] [(3, .cells b.1.cells), (4, .cells b.2.1.cells), (1000, .cells [.slice (.toks v0) false, .int .i64 b.2.2.1, .bool b.2.2.2])]) (fun b => κ .ret [(4, .ptr 4 0)] [(4, .cells b.1.cells), (1000, .cells [.slice (.toks v0) false, .int .i64 b.2.1, .bool b.2.2])])
  | _, _ => .fail
noncomputable def r23_reader_row_ctx (n : Nat) (C : Cal) : FCtx := { env := env, tab := tab C, loops := fun i => bif Nat.beq i 0 then some (r23_reader_row_l0_T n C n) else none, keep := [], ntmps := Tryd.f176.ntmps, results := Tryd.f176.results.toList, fuel := n, heads := r23_reader_row_heads, sects := r23_reader_row_sects, sectT := fun i => none }
theorem r23_reader_row_l0_step (n : Nat) (C : Cal) (k : Nat) (κ : K) (κp : KR) (v0 : List XT) (v1 : Int) (v2 : Bool) (v3 : XE) :
    loopStep (exec (r23_reader_row_ctx n C) (loopBody 0 (bodyOf Tryd.f176))) 0 (look 0 r23_reader_row_heads) κ κp (fun fr st => r23_reader_row_l0_T n C k fr st κ κp) [(0, .ptr 1000 0), (3, .ptr 3 0), (4, .ptr 4 0)] [(1000, .cells [.slice (.toks v0) false, .int .i64 v1, .bool v2]), (3, .cells v3.cells), (4, .cells (XE.mk 0 0 0 0 0 [] []).cells)] =
    goS (r23_reader_row_l0 n C (k + 1) v0 v1 v2 v3) (fun b => κ .normal [(3, .ptr 3 0), (4, .ptr 4 0)] [(3, .cells b.1.cells), (4, .cells b.2.1.cells), (1000, .cells [.slice (.toks v0) false, .int .i64 b.2.2.1, .bool b.2.2.2])]) (fun b => κ .ret [(4, .ptr 4 0)] [(4, .cells b.1.cells), (1000, .cells [.slice (.toks v0) false, .int .i64 b.2.1, .bool b.2.2])]) := by
  simp only [r23_reader_row_l0, goO_cond, goO_none, goO_some, goO_bind, goO_bindS, goS_cond, goS_none, goS_inl, goS_inr, goS_bind, goS_bindS]; kernel_rfl
theorem r23_reader_row_run (n : Nat) (C : Cal) (x1 : XE) (x0_l : List XT) (x0_i : Int) (x0_bad : Bool) :
    bodyRun (r23_reader_row_ctx n C) (bodyOf Tryd.f176) [.ptr 1000 0, .agg x1.cells] [(1000, .cells [.slice (.toks x0_l) false, .int .i64 x0_i, .bool x0_bad])] = goO (r23_reader_row n C x1 x0_l x0_i x0_bad) (fun r => .ret (.agg r.1.cells) [(1000, .cells [.slice (.toks x0_l) false, .int .i64 r.2.1, .bool r.2.2])]) := by
  simp only [r23_reader_row, goO_cond, goO_none, goO_some, goO_bind, goO_bindS, goS_cond, goS_none, goS_inl, goS_inr, goS_bind, goS_bindS]; kernel_rfl

noncomputable def r23_reader_step_sects : List (Nat × Head) := []
noncomputable def r23_reader_step_heads : List (Nat × Head) := [(1, { keep := [0, 2, 3], grow := [], cells := [(3, 6, true)], out := [2, 3], res := [2] })]
noncomputable def r23_reader_step_l1_T (n : Nat) (C : Cal) (k : Nat) : Fr → St → K → KR → Out := fun fr st κ κp => match fr, st with
  | [(0, .ptr 1000 0), (2, .ptr 2 0), (3, .ptr 3 0)], [(1000, .cells [.slice (.toks v0) false, .int .i64 v1, .bool v2]), (2, .cells [.int .u8 0, .int .i64 0, .int .u8 0, .int .u8 0, .int .i64 0, .str [], .slice (.exprs []) false]), (3, .cells [.int .u8 v4, .int .i64 v5, .int .u8 v6, .int .u8 v7, .int .i64 0, .str v9, .gsl 300000]), (300000, .gbuf (.exprs v10) false)] => goS (r23_reader_step_l1 n C k v0 v1 v2 v10) (fun b => κ .normal [(2, .ptr 2 0), (3, .ptr 3 0)] [(2, .cells b.1.cells), (3, .cells [.int .u8 v4, .int .i64 v5, .int .u8 v6, .int .u8 v7, .int .i64 0, .str v9, .gsl 300000]), (300000, .gbuf (.exprs b.2.1) false), (1000, .cells [.slice (.toks v0) false, .int .i64 b.2.2.1, .bool b.2.2.2])]) (fun _ => .fail)
  | _, _ => .fail
noncomputable def r23_reader_step_ctx (n : Nat) (C : Cal) : FCtx := { env := env, tab := tab C, loops := fun i => bif Nat.beq i 1 then some (r23_reader_step_l1_T n C n) else none, keep := [], ntmps := Tryd.f177.ntmps, results := Tryd.f177.results.toList, fuel := n, heads := r23_reader_step_heads, sects := r23_reader_step_sects, sectT := fun i => none }
theorem r23_reader_step_l1_step (n : Nat) (C : Cal) (k : Nat) (κ : K) (κp : KR) (v0 : List XT) (v1 : Int) (v2 : Bool) (v4 : Int) (v5 : Int) (v6 : Int) (v7 : Int) (v9 : Bytes) (v10 : List XE) :
    loopStep (exec (r23_reader_step_ctx n C) (loopBody 1 (bodyOf Tryd.f177))) 1 (look 1 r23_reader_step_heads) κ κp (fun fr st => r23_reader_step_l1_T n C k fr st κ κp) [(0, .ptr 1000 0), (2, .ptr 2 0), (3, .ptr 3 0)] [(1000, .cells [.slice (.toks v0) false, .int .i64 v1, .bool v2]), (2, .cells (XE.mk 0 0 0 0 0 [] []).cells), (3, .cells [.int .u8 v4, .int .i64 v5, .int .u8 v6, .int .u8 v7, .int .i64 0, .str v9, .gsl 300000]), (300000, .gbuf (.exprs v10) false)] =
    goS (r23_reader_step_l1 n C (k + 1) v0 v1 v2 v10) (fun b => κ .normal [(2, .ptr 2 0), (3, .ptr 3 0)] [(2, .cells b.1.cells), (3, .cells [.int .u8 v4, .int .i64 v5, .int .u8 v6, .int .u8 v7, .int .i64 0, .str v9, .gsl 300000]), (300000, .gbuf (.exprs b.2.1) false), (1000, .cells [.slice (.toks v0) false, .int .i64 b.2.2.1, .bool b.2.2.2])]) (fun _ => .fail) := by
  simp only [r23_reader_step_l1, goO_cond, goO_none, goO_some, goO_bind, goO_bindS, goS_cond, goS_none, goS_inl, goS_inr, goS_bind, goS_bindS]; kernel_rfl
theorem r23_reader_step_run (n : Nat) (C : Cal) (x0_l : List XT) (x0_i : Int) (x0_bad : Bool) :
    bodyRun (r23_reader_step_ctx n C) (bodyOf Tryd.f177) [.ptr 1000 0] [(1000, .cells [.slice (.toks x0_l) false, .int .i64 x0_i, .bool x0_bad])] = goO (r23_reader_step n C x0_l x0_i x0_bad) (fun r => .ret (.agg r.1.cells) [(1000, .cells [.slice (.toks x0_l) false, .int .i64 r.2.1, .bool r.2.2])]) := by
  simp only [r23_reader_step, goO_cond, goO_none, goO_some, goO_bind, goO_bindS, goS_cond, goS_none, goS_inl, goS_inr, goS_bind, goS_bindS]; kernel_rfl

noncomputable def r23_deep_sects : List (Nat × Head) := []
noncomputable def r23_deep_heads : List (Nat × Head) := []
noncomputable def r23_deep_ctx (n : Nat) (C : Cal) : FCtx := { env := env, tab := tab C, loops := fun i => none, keep := [], ntmps := Tryd.f178.ntmps, results := Tryd.f178.results.toList, fuel := n, heads := r23_deep_heads, sects := r23_deep_sects, sectT := fun i => none }
theorem r23_deep_run (n : Nat) (C : Cal) (x0 : XE) (x1 : Int) :
    bodyRun (r23_deep_ctx n C) (bodyOf Tryd.f178) [.agg x0.cells, .int .i64 x1] [] = goO (r23_deep n C x0 x1) (fun r => .ret (.agg r.cells) []) := by
  simp only [r23_deep, goO_cond, goO_none, goO_some, goO_bind, goO_bindS, goS_cond, goS_none, goS_inl, goS_inr, goS_bind, goS_bindS]; kernel_rfl

noncomputable def r23_reader_axis_sects : List (Nat × Head) := []
noncomputable def r23_reader_axis_heads : List (Nat × Head) := [(0, { keep := [0, 3, 4], grow := [], cells := [], out := [], res := [2] })]
noncomputable def r23_reader_axis_l0_T (n : Nat) (C : Cal) (k : Nat) : Fr → St → K → KR → Out := fun fr st κ κp => match fr, st with
  | [(0, .ptr 1000 0), (3, .slice (.strs v0) false), (4, .int .i64 v1)], [(1000, .cells [.slice (.toks v2) false, .int .i64 v3, .bool v4])] => goS (r23_reader_axis_l0 n C k v0 v1 v2 v3 v4) (fun b => κ .normal [] [(1000, .cells [.slice (.toks v2) false, .int .i64 v3, .bool v4])]) (fun b => κ .ret [(2, .int .u8 b.1)] [(1000, .cells [.slice (.toks v2) false, .int .i64 b.2, .bool v4])])
  | _, _ => .fail
noncomputable def r23_reader_axis_ctx (n : Nat) (C : Cal) : FCtx := { env := env, tab := tab C, loops := fun i => bif Nat.beq i 0 then some (r23_reader_axis_l0_T n C n) else none, keep := [], ntmps := Tryd.f179.ntmps, results := Tryd.f179.results.toList, fuel := n, heads := r23_reader_axis_heads, sects := r23_reader_axis_sects, sectT := fun i => none }
theorem r23_reader_axis_l0_step (n : Nat) (C : Cal) (k : Nat) (κ : K) (κp : KR) (v0 : List Bytes) (v1 : Int) (v2 : List XT) (v3 : Int) (v4 : Bool) :
    loopStep (exec (r23_reader_axis_ctx n C) (loopBody 0 (bodyOf Tryd.f179))) 0 (look 0 r23_reader_axis_heads) κ κp (fun fr st => r23_reader_axis_l0_T n C k fr st κ κp) [(0, .ptr 1000 0), (3, .slice (.strs v0) false), (4, .int .i64 v1)] [(1000, .cells [.slice (.toks v2) false, .int .i64 v3, .bool v4])] =
    goS (r23_reader_axis_l0 n C (k + 1) v0 v1 v2 v3 v4) (fun b => κ .normal [] [(1000, .cells [.slice (.toks v2) false, .int .i64 v3, .bool v4])]) (fun b => κ .ret [(2, .int .u8 b.1)] [(1000, .cells [.slice (.toks v2) false, .int .i64 b.2, .bool v4])]) := by
  simp only [r23_reader_axis_l0, goO_cond, goO_none, goO_some, goO_bind, goO_bindS, goS_cond, goS_none, goS_inl, goS_inr, goS_bind, goS_bindS]; kernel_rfl
theorem r23_reader_axis_run (n : Nat) (C : Cal) (x0_l : List XT) (x0_i : Int) (x0_bad : Bool) :
    bodyRun (r23_reader_axis_ctx n C) (bodyOf Tryd.f179) [.ptr 1000 0] [(1000, .cells [.slice (.toks x0_l) false, .int .i64 x0_i, .bool x0_bad])] = goO (r23_reader_axis n C x0_l x0_i x0_bad) (fun r => .ret (.int .u8 r.1) [(1000, .cells [.slice (.toks x0_l) false, .int .i64 r.2, .bool x0_bad])]) := by
  simp only [r23_reader_axis, goO_cond, goO_none, goO_some, goO_bind, goO_bindS, goS_cond, goS_none, goS_inl, goS_inr, goS_bind, goS_bindS]; kernel_rfl

noncomputable def r23_reader_test_sects : List (Nat × Head) := []
noncomputable def r23_reader_test_heads : List (Nat × Head) := []
noncomputable def r23_reader_test_ctx (n : Nat) (C : Cal) : FCtx := { env := env, tab := tab C, loops := fun i => none, keep := [], ntmps := Tryd.f180.ntmps, results := Tryd.f180.results.toList, fuel := n, heads := r23_reader_test_heads, sects := r23_reader_test_sects, sectT := fun i => none }
theorem r23_reader_test_run (n : Nat) (C : Cal) (x0_l : List XT) (x0_i : Int) (x0_bad : Bool) (x1_Kind : Int) (x1_At : Int) (x1_Axis : Int) (x1_Test : Int) (x1_Num : Int) (x1_Text : Bytes) (x1_Kids : List XE) :
    bodyRun (r23_reader_test_ctx n C) (bodyOf Tryd.f180) [.ptr 1000 0, .ptr 1001 0] [(1000, .cells [.slice (.toks x0_l) false, .int .i64 x0_i, .bool x0_bad]), (1001, .cells [.int .u8 x1_Kind, .int .i64 x1_At, .int .u8 x1_Axis, .int .u8 x1_Test, .int .i64 x1_Num, .str x1_Text, .gsl 1002]), (1002, .gbuf (.exprs x1_Kids) true)] = goO (r23_reader_test n C x0_l x0_i x0_bad x1_Kind x1_At x1_Axis x1_Test x1_Num x1_Text x1_Kids) (fun r => .ret (.tup []) [(1000, .cells [.slice (.toks x0_l) false, .int .i64 r.1, .bool r.2.1]), (1001, .cells [.int .u8 x1_Kind, .int .i64 x1_At, .int .u8 x1_Axis, .int .u8 r.2.2.1, .int .i64 x1_Num, .str r.2.2.2, .gsl 500000]), (500000, .gbuf (.exprs x1_Kids) true)]) := by
  simp only [r23_reader_test, goO_cond, goO_none, goO_some, goO_bind, goO_bindS, goS_cond, goS_none, goS_inl, goS_inr, goS_bind, goS_bindS]; kernel_rfl

noncomputable def r23_reader_primary_sects : List (Nat × Head) := []
noncomputable def r23_reader_primary_heads : List (Nat × Head) := []
noncomputable def r23_reader_primary_ctx (n : Nat) (C : Cal) : FCtx := { env := env, tab := tab C, loops := fun i => none, keep := [], ntmps := Tryd.f181.ntmps, results := Tryd.f181.results.toList, fuel := n, heads := r23_reader_primary_heads, sects := r23_reader_primary_sects, sectT := fun i => none }
theorem r23_reader_primary_run (n : Nat) (C : Cal) (x0_l : List XT) (x0_i : Int) (x0_bad : Bool) :
    bodyRun (r23_reader_primary_ctx n C) (bodyOf Tryd.f181) [.ptr 1000 0] [(1000, .cells [.slice (.toks x0_l) false, .int .i64 x0_i, .bool x0_bad])] = goO (r23_reader_primary n C x0_l x0_i x0_bad) (fun r => .ret (.agg r.1.cells) [(1000, .cells [.slice (.toks x0_l) false, .int .i64 r.2.1, .bool r.2.2])]) := by
  simp only [r23_reader_primary, goO_cond, goO_none, goO_some, goO_bind, goO_bindS, goS_cond, goS_none, goS_inl, goS_inr, goS_bind, goS_bindS]; kernel_rfl

noncomputable def r23_axes_sects : List (Nat × Head) := []
noncomputable def r23_axes_heads : List (Nat × Head) := []
noncomputable def r23_axes_ctx (n : Nat) (C : Cal) : FCtx := { env := env, tab := tab C, loops := fun i => none, keep := [], ntmps := Tryd.f182.ntmps, results := Tryd.f182.results.toList, fuel := n, heads := r23_axes_heads, sects := r23_axes_sects, sectT := fun i => none }
theorem r23_axes_run (n : Nat) (C : Cal) :
    bodyRun (r23_axes_ctx n C) (bodyOf Tryd.f182) [] [] = goO (r23_axes n C ) (fun r => .ret (.slice (.strs r) false) []) := by
  simp only [r23_axes, goO_cond, goO_none, goO_some, goO_bind, goO_bindS, goS_cond, goS_none, goS_inl, goS_inr, goS_bind, goS_bindS]; kernel_rfl

noncomputable def r23_reader_brackets_sects : List (Nat × Head) := []
noncomputable def r23_reader_brackets_heads : List (Nat × Head) := []
noncomputable def r23_reader_brackets_ctx (n : Nat) (C : Cal) : FCtx := { env := env, tab := tab C, loops := fun i => none, keep := [], ntmps := Tryd.f183.ntmps, results := Tryd.f183.results.toList, fuel := n, heads := r23_reader_brackets_heads, sects := r23_reader_brackets_sects, sectT := fun i => none }
theorem r23_reader_brackets_run (n : Nat) (C : Cal) (x0_l : List XT) (x0_i : Int) (x0_bad : Bool) :
    bodyRun (r23_reader_brackets_ctx n C) (bodyOf Tryd.f183) [.ptr 1000 0] [(1000, .cells [.slice (.toks x0_l) false, .int .i64 x0_i, .bool x0_bad])] = goO (r23_reader_brackets n C x0_l x0_i x0_bad) (fun r => .ret (.agg r.1.cells) [(1000, .cells [.slice (.toks x0_l) false, .int .i64 r.2.1, .bool r.2.2])]) := by
  simp only [r23_reader_brackets, goO_cond, goO_none, goO_some, goO_bind, goO_bindS, goS_cond, goS_none, goS_inl, goS_inr, goS_bind, goS_bindS]; kernel_rfl

noncomputable def r23_reader_call_sects : List (Nat × Head) := []
noncomputable def r23_reader_call_heads : List (Nat × Head) := [(0, { keep := [0, 2, 4], grow := [], cells := [], out := [0, 2, 4], res := [2] })]
noncomputable def r23_reader_call_l0_T (n : Nat) (C : Cal) (k : Nat) : Fr → St → K → KR → Out := fun fr st κ κp => match fr, st with
  | [(0, .ptr 1000 0), (2, .ptr 2 0), (4, .ptr 4 0)], [(1000, .cells [.slice (.toks v0) false, .int .i64 v1, .bool v2]), (2, .cells [.int .u8 0, .int .i64 0, .int .u8 0, .int .u8 0, .int .i64 0, .str [], .slice (.exprs []) false]), (4, .cells [.int .u8 12, .int .i64 v5, .int .u8 0, .int .u8 0, .int .i64 0, .str v9, .gsl 300000]), (300000, .gbuf (.exprs v10) true)] => goS (r23_reader_call_l0 n C k v0 v1 v2 v10) (fun b => κ .normal [(0, .ptr 1000 0), (2, .ptr 2 0), (4, .ptr 4 0)] [(1000, .cells [.slice (.toks v0) false, .int .i64 b.1, .bool b.2.1]), (2, .cells b.2.2.1.cells), (4, .cells [.int .u8 12, .int .i64 v5, .int .u8 0, .int .u8 0, .int .i64 0, .str v9, .gsl 300000]), (300000, .gbuf (.exprs b.2.2.2) true)]) (fun _ => .fail)
  | _, _ => .fail
noncomputable def r23_reader_call_ctx (n : Nat) (C : Cal) : FCtx := { env := env, tab := tab C, loops := fun i => bif Nat.beq i 0 then some (r23_reader_call_l0_T n C n) else none, keep := [], ntmps := Tryd.f184.ntmps, results := Tryd.f184.results.toList, fuel := n, heads := r23_reader_call_heads, sects := r23_reader_call_sects, sectT := fun i => none }
theorem r23_reader_call_l0_step (n : Nat) (C : Cal) (k : Nat) (κ : K) (κp : KR) (v0 : List XT) (v1 : Int) (v2 : Bool) (v5 : Int) (v9 : Bytes) (v10 : List XE) :
    loopStep (exec (r23_reader_call_ctx n C) (loopBody 0 (bodyOf Tryd.f184))) 0 (look 0 r23_reader_call_heads) κ κp (fun fr st => r23_reader_call_l0_T n C k fr st κ κp) [(0, .ptr 1000 0), (2, .ptr 2 0), (4, .ptr 4 0)] [(1000, .cells [.slice (.toks v0) false, .int .i64 v1, .bool v2]), (2, .cells (XE.mk 0 0 0 0 0 [] []).cells), (4, .cells [.int .u8 12, .int .i64 v5, .int .u8 0, .int .u8 0, .int .i64 0, .str v9, .gsl 300000]), (300000, .gbuf (.exprs v10) true)] =
    goS (r23_reader_call_l0 n C (k + 1) v0 v1 v2 v10) (fun b => κ .normal [(0, .ptr 1000 0), (2, .ptr 2 0), (4, .ptr 4 0)] [(1000, .cells [.slice (.toks v0) false, .int .i64 b.1, .bool b.2.1]), (2, .cells b.2.2.1.cells), (4, .cells [.int .u8 12, .int .i64 v5, .int .u8 0, .int .u8 0, .int .i64 0, .str v9, .gsl 300000]), (300000, .gbuf (.exprs b.2.2.2) true)]) (fun _ => .fail) := by
  simp only [r23_reader_call_l0, goO_cond, goO_none, goO_some, goO_bind, goO_bindS, goS_cond, goS_none, goS_inl, goS_inr, goS_bind, goS_bindS]; kernel_rfl
theorem r23_reader_call_run (n : Nat) (C : Cal) (x0_l : List XT) (x0_i : Int) (x0_bad : Bool) :
    bodyRun (r23_reader_call_ctx n C) (bodyOf Tryd.f184) [.ptr 1000 0] [(1000, .cells [.slice (.toks x0_l) false, .int .i64 x0_i, .bool x0_bad])] = goO (r23_reader_call n C x0_l x0_i x0_bad) (fun r => .ret (.agg r.1.cells) [(1000, .cells [.slice (.toks x0_l) false, .int .i64 r.2.1, .bool r.2.2])]) := by
  simp only [r23_reader_call, goO_cond, goO_none, goO_some, goO_bind, goO_bindS, goS_cond, goS_none, goS_inl, goS_inr, goS_bind, goS_bindS]; kernel_rfl

noncomputable def slices_Contains_v1_sects : List (Nat × Head) := []
noncomputable def slices_Contains_v1_heads : List (Nat × Head) := []
noncomputable def slices_Contains_v1_ctx (n : Nat) (C : Cal) : FCtx := { env := env, tab := tab C, loops := fun i => none, keep := [], ntmps := Tryd.f90.ntmps, results := Tryd.f90.results.toList, fuel := n, heads := slices_Contains_v1_heads, sects := slices_Contains_v1_sects, sectT := fun i => none }
theorem slices_Contains_v1_run (n : Nat) (C : Cal) (x0 : Bytes) (x1 : List Bytes) :
    bodyRun (slices_Contains_v1_ctx n C) (bodyOf Tryd.f90) [.gsl 1000, .str x0] [(1000, .gbuf (.strs x1) true)] = goO (slices_Contains_v1 n C x0 x1) (fun r => .ret (.bool r) [(1000, .gbuf (.strs x1) true)]) := by
  simp only [slices_Contains_v1, goO_cond, goO_none, goO_some, goO_bind, goO_bindS, goS_cond, goS_none, goS_inl, goS_inr, goS_bind, goS_bindS]; kernel_rfl

noncomputable def slices_Index_v1_sects : List (Nat × Head) := []
noncomputable def slices_Index_v1_heads : List (Nat × Head) := [(0, { keep := [0, 1, 7, 8], grow := [], cells := [], out := [], res := [4] })]
noncomputable def slices_Index_v1_l0_T (n : Nat) (C : Cal) (k : Nat) : Fr → St → K → KR → Out := fun fr st κ κp => match fr, st with
  | [(0, .gsl 1000), (1, .str v0), (7, .int .i64 v1), (8, .int .i64 v2)], [(1000, .gbuf (.strs v3) true)] => goS (slices_Index_v1_l0 n C k v0 v1 v2 v3) (fun b => κ .normal [] [(1000, .gbuf (.strs v3) true)]) (fun b => κ .ret [(4, .int .i64 b)] [(1000, .gbuf (.strs v3) true)])
  | _, _ => .fail
noncomputable def slices_Index_v1_ctx (n : Nat) (C : Cal) : FCtx := { env := env, tab := tab C, loops := fun i => bif Nat.beq i 0 then some (slices_Index_v1_l0_T n C n) else none, keep := [], ntmps := Tryd.f132.ntmps, results := Tryd.f132.results.toList, fuel := n, heads := slices_Index_v1_heads, sects := slices_Index_v1_sects, sectT := fun i => none }
theorem slices_Index_v1_l0_step (n : Nat) (C : Cal) (k : Nat) (κ : K) (κp : KR) (v0 : Bytes) (v1 : Int) (v2 : Int) (v3 : List Bytes) :
    loopStep (exec (slices_Index_v1_ctx n C) (loopBody 0 (bodyOf Tryd.f132))) 0 (look 0 slices_Index_v1_heads) κ κp (fun fr st => slices_Index_v1_l0_T n C k fr st κ κp) [(0, .gsl 1000), (1, .str v0), (7, .int .i64 v1), (8, .int .i64 v2)] [(1000, .gbuf (.strs v3) true)] =
    goS (slices_Index_v1_l0 n C (k + 1) v0 v1 v2 v3) (fun b => κ .normal [] [(1000, .gbuf (.strs v3) true)]) (fun b => κ .ret [(4, .int .i64 b)] [(1000, .gbuf (.strs v3) true)]) := by
  simp only [slices_Index_v1_l0, goO_cond, goO_none, goO_some, goO_bind, goO_bindS, goS_cond, goS_none, goS_inl, goS_inr, goS_bind, goS_bindS]; kernel_rfl
theorem slices_Index_v1_run (n : Nat) (C : Cal) (x0 : Bytes) (x1 : List Bytes) :
    bodyRun (slices_Index_v1_ctx n C) (bodyOf Tryd.f132) [.gsl 1000, .str x0] [(1000, .gbuf (.strs x1) true)] = goO (slices_Index_v1 n C x0 x1) (fun r => .ret (.int .i64 r) [(1000, .gbuf (.strs x1) true)]) := by
  simp only [slices_Index_v1, goO_cond, goO_none, goO_some, goO_bind, goO_bindS, goS_cond, goS_none, goS_inl, goS_inr, goS_bind, goS_bindS]; kernel_rfl

end Go.Abs

