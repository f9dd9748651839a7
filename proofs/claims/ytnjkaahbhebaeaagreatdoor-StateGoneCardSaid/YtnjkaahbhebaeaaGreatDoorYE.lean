/- The small environment: the types and functions that are walked; what is known. No condition. (Printed by yenv.py.) -/

import Derived.Test.YtnjkaahbhebaeaaGreatDoorYA
import Derived.Test.YtnjkaahbhebaeaaGreatDoorXNa
import Derived.Test.YtnjkaahbhebaeaaGreatDoorProg
import Derived.Test.YtnjkaahbhebaeaaGreatDoorXU
set_option linter.unusedVariables false
set_option linter.unusedSimpArgs false
set_option maxRecDepth 100000
namespace Go.Proofs.YtnjkaahbhebaeaaGreatDoor
open Go Go.CM
noncomputable section
def tyL : List (Nat × TyS) := [(3, ⟨.int .i64, 1, 8, [.int .i64 0], false, false, []⟩),
 (4, ⟨.bool, 1, 1, [.bool false], false, false, []⟩),
 (2, ⟨.int .i64, 1, 8, [.int .i64 0], false, false, []⟩),
 (35, ⟨.int .i64, 1, 8, [.int .i64 0], false, false, []⟩),
 (31, ⟨.struct [(2, 0), (24, 1), (25, 7), (26, 8), (27, 9), (28, 10), (29, 11)], 12, 272, [.int .i64 0, .slice none 0 0 0, .slice none 0 0 0, .slice none 0 0 0, .slice none 0 0 0, .slice none 0 0 0, .slice none 0 0 0, .slice none 0 0 0, .slice none 0 0 0, .slice none 0 0 0, .slice none 0 0 0, .slice none 0 0 0], true, false, []⟩),
 (22, ⟨.slice 9, 1, 24, [.slice none 0 0 0], false, false, []⟩),
 (46, ⟨.slice 53, 1, 24, [.slice none 0 0 0], false, false, []⟩),
 (32, ⟨.slice 2, 1, 24, [.slice none 0 0 0], false, false, []⟩),
 (9, ⟨.string, 1, 16, [.str []], false, false, []⟩),
 (73, ⟨.slice 3, 1, 24, [.slice none 0 0 0], false, false, []⟩),
 (28, ⟨.slice 157, 1, 24, [.slice none 0 0 0], false, false, []⟩),
 (79, ⟨.struct [(31, 0), (76, 12), (77, 13)], 14, 320, [.int .i64 0, .slice none 0 0 0, .slice none 0 0 0, .slice none 0 0 0, .slice none 0 0 0, .slice none 0 0 0, .slice none 0 0 0, .slice none 0 0 0, .slice none 0 0 0, .slice none 0 0 0, .slice none 0 0 0, .slice none 0 0 0, .slice none 0 0 0, .slice none 0 0 0], true, false, []⟩),
 (24, ⟨.struct [(22, 0), (22, 1), (22, 2), (22, 3), (22, 4), (22, 5)], 6, 144, [.slice none 0 0 0, .slice none 0 0 0, .slice none 0 0 0, .slice none 0 0 0, .slice none 0 0 0, .slice none 0 0 0], true, false, []⟩),
 (27, ⟨.slice 108, 1, 24, [.slice none 0 0 0], false, false, []⟩),
 (108, ⟨.struct [(73, 0), (32, 1), (32, 2)], 3, 72, [.slice none 0 0 0, .slice none 0 0 0, .slice none 0 0 0], true, false, []⟩),
 (25, ⟨.slice 50, 1, 24, [.slice none 0 0 0], false, false, []⟩),
 (26, ⟨.slice 64, 1, 24, [.slice none 0 0 0], false, false, []⟩),
 (29, ⟨.slice 60, 1, 24, [.slice none 0 0 0], false, false, []⟩),
 (90, ⟨.struct [(3, 0), (3, 1), (32, 2), (32, 3)], 4, 64, [.int .i64 0, .int .i64 0, .slice none 0 0 0, .slice none 0 0 0], true, false, []⟩),
 (58, ⟨.struct [(2, 0), (2, 1), (2, 2)], 3, 24, [.int .i64 0, .int .i64 0, .int .i64 0], true, true, []⟩),
 (42, ⟨.struct [(2, 0), (39, 1), (40, 2)], 3, 56, [.int .i64 0, .slice none 0 0 0, .slice none 0 0 0], true, false, []⟩),
 (157, ⟨.struct [(3, 0), (2, 1), (2, 2), (2, 3)], 4, 32, [.int .i64 0, .int .i64 0, .int .i64 0, .int .i64 0], true, true, []⟩),
 (39, ⟨.slice 46, 1, 24, [.slice none 0 0 0], false, false, []⟩),
 (48, ⟨.struct [(3, 0), (3, 1), (2, 2), (4, 3), (3, 4), (46, 5), (46, 6)], 7, 88, [.int .i64 0, .int .i64 0, .int .i64 0, .bool false, .int .i64 0, .slice none 0 0 0, .slice none 0 0 0], true, false, []⟩),
 (94, ⟨.struct [(3, 0), (3, 1)], 2, 16, [.int .i64 0, .int .i64 0], true, true, []⟩),
 (40, ⟨.slice 48, 1, 24, [.slice none 0 0 0], false, false, []⟩),
 (53, ⟨.struct [(2, 0), (2, 1)], 2, 16, [.int .i64 0, .int .i64 0], true, true, []⟩),
 (77, ⟨.slice 94, 1, 24, [.slice none 0 0 0], false, false, []⟩),
 (37, ⟨.struct [(35, 0), (3, 1), (3, 2)], 3, 24, [.int .i64 0, .int .i64 0, .int .i64 0], true, true, []⟩),
 (50, ⟨.struct [(3, 0), (3, 1), (2, 2)], 3, 24, [.int .i64 0, .int .i64 0, .int .i64 0], true, true, []⟩),
 (76, ⟨.slice 84, 1, 24, [.slice none 0 0 0], false, false, []⟩),
 (133, ⟨.slice 216, 1, 24, [.slice none 0 0 0], false, false, []⟩),
 (216, ⟨.struct [(9, 0), (22, 1), (32, 2), (32, 3)], 4, 88, [.str [], .slice none 0 0 0, .slice none 0 0 0, .slice none 0 0 0], true, false, []⟩),
 (60, ⟨.struct [(4, 0), (3, 1), (58, 2)], 5, 40, [.bool false, .int .i64 0, .int .i64 0, .int .i64 0, .int .i64 0], true, true, []⟩),
 (64, ⟨.struct [(3, 0), (3, 1), (2, 2), (58, 3)], 6, 48, [.int .i64 0, .int .i64 0, .int .i64 0, .int .i64 0, .int .i64 0, .int .i64 0], true, true, []⟩),
 (137, ⟨.struct [(2, 0), (22, 1), (131, 2), (132, 3), (133, 4), (134, 5), (135, 6)], 7, 152, [.int .i64 0, .slice none 0 0 0, .slice none 0 0 0, .slice none 0 0 0, .slice none 0 0 0, .slice none 0 0 0, .slice none 0 0 0], true, false, []⟩),
 (131, ⟨.slice 212, 1, 24, [.slice none 0 0 0], false, false, []⟩),
 (132, ⟨.slice 214, 1, 24, [.slice none 0 0 0], false, false, []⟩),
 (134, ⟨.slice 218, 1, 24, [.slice none 0 0 0], false, false, []⟩),
 (135, ⟨.slice 220, 1, 24, [.slice none 0 0 0], false, false, []⟩),
 (212, ⟨.struct [(9, 0), (9, 1), (9, 2), (2, 3)], 4, 56, [.str [], .str [], .str [], .int .i64 0], true, false, []⟩),
 (214, ⟨.struct [(9, 0), (9, 1), (9, 2), (2, 3), (58, 4)], 7, 80, [.str [], .str [], .str [], .int .i64 0, .int .i64 0, .int .i64 0, .int .i64 0], true, false, []⟩),
 (218, ⟨.struct [(9, 0), (9, 1), (2, 2), (2, 3), (2, 4)], 5, 56, [.str [], .str [], .int .i64 0, .int .i64 0, .int .i64 0], true, false, []⟩),
 (220, ⟨.struct [(9, 0), (9, 1), (58, 2)], 5, 56, [.str [], .str [], .int .i64 0, .int .i64 0, .int .i64 0], true, false, []⟩),
 (111, ⟨.slice 200, 1, 24, [.slice none 0 0 0], false, false, []⟩),
 (144, ⟨.func, 1, 8, [.nilFunc], false, false, []⟩),
 (113, ⟨.struct [(3, 0), (2, 1), (111, 2)], 3, 40, [.int .i64 0, .int .i64 0, .slice none 0 0 0], true, false, []⟩),
 (84, ⟨.struct [(3, 0), (3, 1), (3, 2), (2, 3)], 4, 32, [.int .i64 0, .int .i64 0, .int .i64 0, .int .i64 0], true, true, []⟩),
 (85, ⟨.slice 90, 1, 24, [.slice none 0 0 0], false, false, []⟩),
 (200, ⟨.struct [(3, 0), (2, 1), (94, 2), (3, 4), (3, 5)], 6, 48, [.int .i64 0, .int .i64 0, .int .i64 0, .int .i64 0, .int .i64 0, .int .i64 0], true, true, []⟩),
 (283, ⟨.pointer 31, 1, 8, [.ptr none], false, false, []⟩),
 (338, ⟨.pointer 343, 1, 8, [.ptr none], false, false, [("Add", none), ("Len", none), ("timetable/world.door", some (285, true)), ("timetable/world.fine", some (283, true)), ("timetable/world.hazard", some (288, true)), ("timetable/world.path", some (284, true)), ("timetable/world.route", some (286, true)), ("timetable/world.times", some (309, true)), ("timetable/world.trip", some (287, true))]⟩),
 (343, ⟨.struct [(341, 0), (283, 1)], 2, 16, [.ptr none, .ptr none], true, false, [("Add", none), ("Len", none)]⟩),
 (326, ⟨.func, 1, 8, [.nilFunc], false, false, []⟩),
 (164, ⟨.struct [(48, 0), (46, 7)], 8, 112, [.int .i64 0, .int .i64 0, .int .i64 0, .bool false, .int .i64 0, .slice none 0 0 0, .slice none 0 0 0, .slice none 0 0 0], true, false, [("timetable/link.movers", some (91, false))]⟩),
 (196, ⟨.pointer 204, 1, 8, [.ptr none], false, false, [("timetable/journey.ride", some (195, true)), ("timetable/journey.take", some (194, true)), ("timetable/journey.tell", some (337, true)), ("timetable/journey.way", some (133, true))]⟩),
 (5, ⟨.int .u8, 1, 1, [.int .u8 0], false, false, []⟩),
 (116, ⟨.struct [(2, 0), (3, 1)], 2, 16, [.int .i64 0, .int .i64 0], true, true, []⟩),
 (204, ⟨.struct [(79, 0), (42, 14), (3, 17), (2, 18), (3, 19)], 20, 400, [.int .i64 0, .slice none 0 0 0, .slice none 0 0 0, .slice none 0 0 0, .slice none 0 0 0, .slice none 0 0 0, .slice none 0 0 0, .slice none 0 0 0, .slice none 0 0 0, .slice none 0 0 0, .slice none 0 0 0, .slice none 0 0 0, .slice none 0 0 0, .slice none 0 0 0, .int .i64 0, .slice none 0 0 0, .slice none 0 0 0, .int .i64 0, .int .i64 0, .int .i64 0], true, false, []⟩),
 (234, ⟨.struct [(3, 0), (3, 1), (3, 2), (2, 3)], 4, 32, [.int .i64 0, .int .i64 0, .int .i64 0, .int .i64 0], true, false, [("timetable/state.compare", some (165, false))]⟩),
 (245, ⟨.pointer 24, 1, 8, [.ptr none], false, false, []⟩),
 (270, ⟨.func, 1, 8, [.nilFunc], false, false, []⟩),
 (339, ⟨.pointer 366, 1, 8, [.ptr none], false, false, [("Add", some (282, true)), ("Len", some (338, true))]⟩),
 (243, ⟨.array 7 242, 7, 56, [.ptr none, .ptr none, .ptr none, .ptr none, .ptr none, .ptr none, .ptr none], true, false, []⟩),
 (257, ⟨.slice 22, 1, 24, [.slice none 0 0 0], false, false, []⟩),
 (290, ⟨.struct [(2, 0), (2, 1)], 2, 16, [.int .i64 0, .int .i64 0], true, false, [("timetable/window.ahead", some (226, false))]⟩),
 (291, ⟨.slice 290, 1, 24, [.slice none 0 0 0], false, false, []⟩),
 (354, ⟨.int .u64, 1, 8, [.int .u64 0], false, false, []⟩),
 (120, ⟨.struct [(3, 0), (3, 1), (2, 2), (3, 3)], 4, 32, [.int .i64 0, .int .i64 0, .int .i64 0, .int .i64 0], true, false, []⟩),
 (139, ⟨.map 142 46, 1, 8, [.map none], false, false, []⟩),
 (142, ⟨.struct [(4, 0), (3, 1)], 2, 16, [.bool false, .int .i64 0], true, true, []⟩),
 (145, ⟨.func, 1, 8, [.nilFunc], false, false, []⟩),
 (146, ⟨.func, 1, 8, [.nilFunc], false, false, []⟩),
 (166, ⟨.array 3 165, 3, 24, [.nilFunc, .nilFunc, .nilFunc], true, false, []⟩),
 (224, ⟨.func, 1, 8, [.nilFunc], false, false, []⟩),
 (237, ⟨.map 94 3, 1, 8, [.map none], false, false, []⟩),
 (242, ⟨.pointer 22, 1, 8, [.ptr none], false, false, []⟩),
 (260, ⟨.slice 111, 1, 24, [.slice none 0 0 0], false, false, []⟩),
 (263, ⟨.func, 1, 8, [.nilFunc], false, false, []⟩),
 (272, ⟨.func, 1, 8, [.nilFunc], false, false, []⟩),
 (274, ⟨.func, 1, 8, [.nilFunc], false, false, []⟩),
 (277, ⟨.func, 1, 8, [.nilFunc], false, false, []⟩),
 (279, ⟨.func, 1, 8, [.nilFunc], false, false, []⟩),
 (281, ⟨.func, 1, 8, [.nilFunc], false, false, []⟩),
 (286, ⟨.func, 1, 8, [.nilFunc], false, false, []⟩),
 (293, ⟨.func, 1, 8, [.nilFunc], false, false, []⟩),
 (313, ⟨.func, 1, 8, [.nilFunc], false, false, []⟩),
 (315, ⟨.func, 1, 8, [.nilFunc], false, false, []⟩),
 (362, ⟨.map 9 3, 1, 8, [.map none], false, false, []⟩),
 (364, ⟨.struct [(22, 0), (362, 1)], 2, 32, [.slice none 0 0 0, .map none], true, false, []⟩),
 (366, ⟨.struct [(364, 0)], 2, 32, [.slice none 0 0 0, .map none], true, false, []⟩),
 (54, ⟨.slice 4, 1, 24, [.slice none 0 0 0], false, false, []⟩),
 (181, ⟨.func, 1, 8, [.nilFunc], false, false, []⟩),
 (191, ⟨.func, 1, 8, [.nilFunc], false, false, []⟩),
 (201, ⟨.func, 1, 8, [.nilFunc], false, false, []⟩),
 (232, ⟨.func, 1, 8, [.nilFunc], false, false, []⟩),
 (239, ⟨.func, 1, 8, [.nilFunc], false, false, []⟩),
 (247, ⟨.func, 1, 8, [.nilFunc], false, false, []⟩),
 (285, ⟨.func, 1, 8, [.nilFunc], false, false, []⟩),
 (288, ⟨.func, 1, 8, [.nilFunc], false, false, []⟩),
 (294, ⟨.func, 1, 8, [.nilFunc], false, false, []⟩),
 (296, ⟨.func, 1, 8, [.nilFunc], false, false, []⟩),
 (297, ⟨.func, 1, 8, [.nilFunc], false, false, []⟩),
 (300, ⟨.func, 1, 8, [.nilFunc], false, false, []⟩),
 (304, ⟨.func, 1, 8, [.nilFunc], false, false, []⟩),
 (317, ⟨.func, 1, 8, [.nilFunc], false, false, []⟩),
 (319, ⟨.func, 1, 8, [.nilFunc], false, false, []⟩),
 (321, ⟨.func, 1, 8, [.nilFunc], false, false, []⟩),
 (323, ⟨.func, 1, 8, [.nilFunc], false, false, []⟩),
 (325, ⟨.func, 1, 8, [.nilFunc], false, false, []⟩),
 (328, ⟨.func, 1, 8, [.nilFunc], false, false, []⟩),
 (330, ⟨.func, 1, 8, [.nilFunc], false, false, []⟩),
 (333, ⟨.func, 1, 8, [.nilFunc], false, false, []⟩),
 (335, ⟨.func, 1, 8, [.nilFunc], false, false, []⟩),
 (337, ⟨.func, 1, 8, [.nilFunc], false, false, []⟩),
 (341, ⟨.struct [(339, 0)], 1, 8, [.ptr none], true, false, [("Add", none), ("Len", none)]⟩),
 (349, ⟨.array 7 348, 7, 56, [.nilFunc, .nilFunc, .nilFunc, .nilFunc, .nilFunc, .nilFunc, .nilFunc], true, false, []⟩),
 (351, ⟨.func, 1, 8, [.nilFunc], false, false, []⟩),
 (165, ⟨.func, 1, 8, [.nilFunc], false, false, []⟩),
 (348, ⟨.func, 1, 8, [.nilFunc], false, false, []⟩)]
def fnL : List (Nat × FnS) := [(3, fnOf Tryz.f3), (4, fnOf Tryz.f4), (5, fnOf Tryz.f5), (6, fnOf Tryz.f6), (7, fnOf Tryz.f7), (8, fnOf Tryz.f8), (9, fnOf Tryz.f9), (10, fnOf Tryz.f10), (12, fnOf Tryz.f12), (13, fnOf Tryz.f13), (14, fnOf Tryz.f14), (15, fnOf Tryz.f15), (16, fnOf Tryz.f16), (17, fnOf Tryz.f17), (18, fnOf Tryz.f18), (19, fnOf Tryz.f19), (20, fnOf Tryz.f20), (21, fnOf Tryz.f21), (22, fnOf Tryz.f22), (23, fnOf Tryz.f23), (24, fnOf Tryz.f24), (25, fnOf Tryz.f25), (26, fnOf Tryz.f26), (27, fnOf Tryz.f27), (28, fnOf Tryz.f28), (29, fnOf Tryz.f29), (30, fnOf Tryz.f30), (31, fnOf Tryz.f31), (32, fnOf Tryz.f32), (33, fnOf Tryz.f33), (35, fnOf Tryz.f35), (36, fnOf Tryz.f36), (37, fnOf Tryz.f37), (38, fnOf Tryz.f38), (39, fnOf Tryz.f39), (40, fnOf Tryz.f40), (41, fnOf Tryz.f41), (42, fnOf Tryz.f42), (43, fnOf Tryz.f43), (44, fnOf Tryz.f44), (45, fnOf Tryz.f45), (46, fnOf Tryz.f46), (47, fnOf Tryz.f47), (48, fnOf Tryz.f48), (49, fnOf Tryz.f49), (50, fnOf Tryz.f50), (51, fnOf Tryz.f51), (52, fnOf Tryz.f52), (54, fnOf Tryz.f54), (55, fnOf Tryz.f55), (56, fnOf Tryz.f56), (57, fnOf Tryz.f57), (58, fnOf Tryz.f58), (59, fnOf Tryz.f59), (61, fnOf Tryz.f61), (62, fnOf Tryz.f62), (63, fnOf Tryz.f63), (64, fnOf Tryz.f64), (65, fnOf Tryz.f65), (66, fnOf Tryz.f66), (67, fnOf Tryz.f67), (68, fnOf Tryz.f68), (69, fnOf Tryz.f69), (70, fnOf Tryz.f70), (71, fnOf Tryz.f71), (72, fnOf Tryz.f72), (73, fnOf Tryz.f73), (74, fnOf Tryz.f74), (75, fnOf Tryz.f75), (76, fnOf Tryz.f76), (77, fnOf Tryz.f77), (78, fnOf Tryz.f78), (79, fnOf Tryz.f79), (80, fnOf Tryz.f80), (81, fnOf Tryz.f81), (82, fnOf Tryz.f82), (83, fnOf Tryz.f83), (84, fnOf Tryz.f84), (85, fnOf Tryz.f85), (86, fnOf Tryz.f86), (87, fnOf Tryz.f87), (88, fnOf Tryz.f88), (89, fnOf Tryz.f89), (90, fnOf Tryz.f90), (91, fnOf Tryz.f91), (92, fnOf Tryz.f92), (93, fnOf Tryz.f93), (94, fnOf Tryz.f94), (95, fnOf Tryz.f95), (96, fnOf Tryz.f96), (97, fnOf Tryz.f97), (98, fnOf Tryz.f98), (99, fnOf Tryz.f99), (100, fnOf Tryz.f100), (101, fnOf Tryz.f101), (102, fnOf Tryz.f102), (103, fnOf Tryz.f103), (104, fnOf Tryz.f104), (105, fnOf Tryz.f105), (106, fnOf Tryz.f106), (107, fnOf Tryz.f107), (108, fnOf Tryz.f108), (109, fnOf Tryz.f109), (110, fnOf Tryz.f110), (111, fnOf Tryz.f111), (112, fnOf Tryz.f112), (113, fnOf Tryz.f113), (114, fnOf Tryz.f114), (115, fnOf Tryz.f115), (116, fnOf Tryz.f116), (117, fnOf Tryz.f117), (118, fnOf Tryz.f118), (119, fnOf Tryz.f119), (120, fnOf Tryz.f120), (121, fnOf Tryz.f121), (122, fnOf Tryz.f122), (123, fnOf Tryz.f123), (124, fnOf Tryz.f124), (125, fnOf Tryz.f125), (126, fnOf Tryz.f126), (127, fnOf Tryz.f127), (128, fnOf Tryz.f128), (129, fnOf Tryz.f129), (130, fnOf Tryz.f130), (131, fnOf Tryz.f131), (132, fnOf Tryz.f132), (133, fnOf Tryz.f133), (134, fnOf Tryz.f134), (135, fnOf Tryz.f135), (136, fnOf Tryz.f136), (137, fnOf Tryz.f137), (138, fnOf Tryz.f138), (139, fnOf Tryz.f139), (140, fnOf Tryz.f140), (141, fnOf Tryz.f141), (142, fnOf Tryz.f142), (143, fnOf Tryz.f143), (144, fnOf Tryz.f144), (145, fnOf Tryz.f145), (146, fnOf Tryz.f146), (147, fnOf Tryz.f147), (148, fnOf Tryz.f148), (149, fnOf Tryz.f149), (150, fnOf Tryz.f150), (151, fnOf Tryz.f151), (152, fnOf Tryz.f152), (153, fnOf Tryz.f153), (154, fnOf Tryz.f154), (155, fnOf Tryz.f155), (156, fnOf Tryz.f156), (157, fnOf Tryz.f157), (158, fnOf Tryz.f158), (159, fnOf Tryz.f159), (160, fnOf Tryz.f160), (161, fnOf Tryz.f161), (162, fnOf Tryz.f162), (163, fnOf Tryz.f163), (164, fnOf Tryz.f164), (165, fnOf Tryz.f165), (166, fnOf Tryz.f166), (167, fnOf Tryz.f167), (168, fnOf Tryz.f168), (169, fnOf Tryz.f169), (170, fnOf Tryz.f170), (171, fnOf Tryz.f171), (172, fnOf Tryz.f172), (173, fnOf Tryz.f173), (174, fnOf Tryz.f174), (175, fnOf Tryz.f175), (176, fnOf Tryz.f176), (177, fnOf Tryz.f177), (178, fnOf Tryz.f178), (179, fnOf Tryz.f179), (180, fnOf Tryz.f180), (181, fnOf Tryz.f181), (182, fnOf Tryz.f182), (183, fnOf Tryz.f183), (184, fnOf Tryz.f184), (185, fnOf Tryz.f185), (186, fnOf Tryz.f186), (187, fnOf Tryz.f187), (188, fnOf Tryz.f188), (189, fnOf Tryz.f189), (190, fnOf Tryz.f190), (191, fnOf Tryz.f191), (192, fnOf Tryz.f192), (193, fnOf Tryz.f193), (194, fnOf Tryz.f194), (195, fnOf Tryz.f195), (196, fnOf Tryz.f196), (197, fnOf Tryz.f197), (198, fnOf Tryz.f198), (199, fnOf Tryz.f199), (200, fnOf Tryz.f200), (201, fnOf Tryz.f201), (202, fnOf Tryz.f202), (203, fnOf Tryz.f203), (204, fnOf Tryz.f204), (205, fnOf Tryz.f205), (206, fnOf Tryz.f206), (207, fnOf Tryz.f207), (208, fnOf Tryz.f208), (209, fnOf Tryz.f209), (210, fnOf Tryz.f210), (211, fnOf Tryz.f211), (212, fnOf Tryz.f212), (213, fnOf Tryz.f213), (214, fnOf Tryz.f214), (215, fnOf Tryz.f215), (216, fnOf Tryz.f216), (217, fnOf Tryz.f217), (218, fnOf Tryz.f218), (219, fnOf Tryz.f219), (220, fnOf Tryz.f220), (221, fnOf Tryz.f221), (222, fnOf Tryz.f222), (223, fnOf Tryz.f223), (224, fnOf Tryz.f224), (225, fnOf Tryz.f225), (226, fnOf Tryz.f226), (227, fnOf Tryz.f227), (228, fnOf Tryz.f228), (229, fnOf Tryz.f229), (230, fnOf Tryz.f230), (231, fnOf Tryz.f231), (232, fnOf Tryz.f232), (233, fnOf Tryz.f233), (234, fnOf Tryz.f234), (235, fnOf Tryz.f235), (236, fnOf Tryz.f236), (237, fnOf Tryz.f237), (238, fnOf Tryz.f238), (239, fnOf Tryz.f239), (240, fnOf Tryz.f240), (241, fnOf Tryz.f241), (242, fnOf Tryz.f242), (243, fnOf Tryz.f243), (244, fnOf Tryz.f244), (245, fnOf Tryz.f245), (246, fnOf Tryz.f246), (247, fnOf Tryz.f247), (248, fnOf Tryz.f248), (249, fnOf Tryz.f249), (250, fnOf Tryz.f250), (251, fnOf Tryz.f251), (252, fnOf Tryz.f252), (253, fnOf Tryz.f253), (254, fnOf Tryz.f254), (255, fnOf Tryz.f255), (256, fnOf Tryz.f256), (257, fnOf Tryz.f257), (258, fnOf Tryz.f258), (259, fnOf Tryz.f259), (260, fnOf Tryz.f260), (261, fnOf Tryz.f261), (262, fnOf Tryz.f262), (263, fnOf Tryz.f263), (264, fnOf Tryz.f264), (265, fnOf Tryz.f265), (266, fnOf Tryz.f266), (267, fnOf Tryz.f267), (268, fnOf Tryz.f268), (269, fnOf Tryz.f269), (270, fnOf Tryz.f270), (271, fnOf Tryz.f271), (272, fnOf Tryz.f272), (273, fnOf Tryz.f273), (274, fnOf Tryz.f274), (275, fnOf Tryz.f275), (276, fnOf Tryz.f276), (277, fnOf Tryz.f277), (278, fnOf Tryz.f278), (279, fnOf Tryz.f279), (280, fnOf Tryz.f280), (281, fnOf Tryz.f281), (282, fnOf Tryz.f282), (283, fnOf Tryz.f283), (284, fnOf Tryz.f284), (285, fnOf Tryz.f285), (286, fnOf Tryz.f286), (287, fnOf Tryz.f287), (288, fnOf Tryz.f288), (289, fnOf Tryz.f289), (290, fnOf Tryz.f290), (291, fnOf Tryz.f291), (292, fnOf Tryz.f292), (293, fnOf Tryz.f293), (294, fnOf Tryz.f294), (295, fnOf Tryz.f295), (296, fnOf Tryz.f296), (297, fnOf Tryz.f297), (298, fnOf Tryz.f298), (299, fnOf Tryz.f299), (300, fnOf Tryz.f300), (301, fnOf Tryz.f301), (302, fnOf Tryz.f302), (303, fnOf Tryz.f303), (304, fnOf Tryz.f304), (305, fnOf Tryz.f305), (306, fnOf Tryz.f306), (307, fnOf Tryz.f307), (308, fnOf Tryz.f308), (309, fnOf Tryz.f309), (310, fnOf Tryz.f310), (311, fnOf Tryz.f311), (312, fnOf Tryz.f312), (313, fnOf Tryz.f313), (314, fnOf Tryz.f314), (316, fnOf Tryz.f316), (337, fnOf Tryz.f337), (338, fnOf Tryz.f338)]
def ascii : List Int := [0, 0, 0, 0, 0, 0, 0, 0, 0, 1, 1, 1, 1, 1, 0, 0, 0, 0, 0, 0, 0, 0, 0, 0, 0, 0, 0, 0, 0, 0, 0, 0, 1] ++ List.replicate 223 0
def rows : List (Nat × List CM.CV) := [(0, ascii.map (CM.CV.int .u8))]
def nglob : Nat := 1
/-- The chapters' examples. -/
def lives11E : KE := ⟨11, [], [], .bool true, []⟩
def lives16E : KE := ⟨34, [], [], .bool true, []⟩
def lives23E : KE := ⟨53, [], [], .bool true, []⟩
/-- The reserved words, cut from a text. -/
def fieldsE : KE := ⟨315, [.str [104, 111, 114, 105, 122, 111, 110, 32, 115, 116, 111, 112, 32, 112, 97, 116, 104, 32, 100, 111, 111, 114, 32, 114, 111, 117, 116, 101, 32, 116, 114, 105, 112, 32, 104, 97, 122, 97, 114, 100, 32, 102, 114, 111, 109, 32, 101, 118, 101, 114, 121, 32, 111, 112, 101, 110, 32, 99, 108, 111, 115, 101, 100, 32, 111, 102, 32, 111, 110, 32, 117, 110, 116, 105, 108, 32, 115, 116, 97, 121]], [], .slice (some (nglob, 0)) 15 15 0, [Tt.reserved.map fun s => .str s]⟩
def known : List KE := [lives11E, lives16E, lives23E, fieldsE]

def E1 : Env := ⟨lk tyL, lk fnL, nglob, known, rows⟩
end
end Go.Proofs.YtnjkaahbhebaeaaGreatDoor

namespace Go.Proofs.YtnjkaahbhebaeaaGreatDoor
open Go Go.CM Go.CM.Tt
noncomputable section
set_option maxHeartbeats 4000000
def RH (h:Heap):Prop:=rowsHold h rows=true/\∀r∈rows,r.1<h.next
theorem RH.ext {h h':Heap} (r:RH h) (x:Ext h h'):RH h':=⟨rowsHold_of (λq hq=>x.old _ (r.2 q hq)) r.1,λq hq=>Nat.lt_of_lt_of_le (r.2 q hq) x.next⟩
theorem class_w {h:Heap} {tm:Tm} {Q:R->Prop} (c:Int) (q:Q (.val (.int .i64 (classI c)) h)):W E1 (.call (.fn 300 [] []) [.int .u8 c]) tm h Q:=by
 refine W.fn (s:=fnOf Tryz.f300) rfl rfl rfl rfl ?_;unfold classI at q;by_cases c1:97<=c/\c<=122
 ·rw[if_pos c1]at q
  repeat refine W.g ?_
  exact q
 rw[if_neg c1]at q;by_cases c2:48<=c/\c<=57
 ·rw[if_pos c2]at q
  repeat refine W.g ?_
  exact q
 rw[if_neg c2]at q;by_cases c3:c=45
 ·rw[if_pos (.inl c3)]at q
  repeat refine W.g ?_
  exact q
 by_cases c4:c=95
 ·rw[if_pos (.inr c4)]at q
  repeat refine W.g ?_
  exact q
 rw[if_neg (λh=>h.elim c3 c4)]at q;by_cases c5:97<=c
 ·repeat refine W.g ?_
  exact q
 by_cases c6:48<=c
 ·repeat refine W.g ?_
  exact q
 repeat refine W.g ?_
 exact q
theorem index_w {h:Heap} {tm:Tm} {Q:R->Prop} {v:CV} {l:List Str} (s:Str) (sl:Sl h v l) (hm:l.length<=1099511627776)
  (q:Q (.val (.int .i64 (place l s)) h)):W E1 (.call (.fn 307 [] []) [v,.str s]) tm h Q:=by
 refine W.fn (s:=fnOf Tryz.f307) rfl rfl rfl rfl ?_;repeat refine W.g ?_
 refine W.loop (σ:=Nat) (λk tm h'=>h'=h/\tm.look 0=v/\tm.look 1= .str s/\tm.look 7= .int .i64 (l.length:Int)/\tm.look 8= .int .i64 (k:Int)/\k<=l.length/\∀j,j<k->∀a,l[j]? =some a->a≠s) (λk=>l.length-k) ?_ (s:=0)
  ⟨rfl,rfl,rfl,rfl,rfl,Nat.zero_le _,λj hj=>by omega⟩
 rintro k tm h' ⟨rfl,w0,w1,w7,w8,hk,hn⟩;obtain⟨T,rfl⟩:=Tm.t4 w0 w1 w7 w8;clear w0 w1 w7 w8;by_cases c1:k<l.length
 ·repeat refine W.g ?_
  refine W.iz λi_ o_ L_=> ?_;by_cases c2:s=l[k]
  ·repeat refine W.g ?_
   rw[place_some (l:=l) (s:=s) (k:=k) (by rw[List.getElem?_eq_getElem c1,<-c2]) hn]at q;exact q
  ·repeat refine W.g ?_
   refine⟨k+1,lessN c1,rfl,rfl,rfl,rfl,rfl,c1,λj hj a ha=> ?_⟩;by_cases e:j=k
   ·subst e
    rw[List.getElem?_eq_getElem c1]at ha;cases ha;exact λh=>c2 h.symm
   ·exact hn j (by omega) a ha
 ·repeat refine W.g ?_
  rw[place_none (l:=l) (s:=s) λj a ha=>hn j (by have:=(List.getElem?_eq_some_iff.1 ha).1;omega) a ha]at q;exact q
theorem contains_w {h:Heap} {tm:Tm} {Q:R->Prop} {v:CV} {l:List Str} (s:Str) (sl:Sl h v l) (hm:l.length<=1099511627776)
  (q:∀b:Bool,(b=true↔s∈l)->Q (.val (.bool b) h)):W E1 (.call (.fn 314 [] []) [v,.str s]) tm h Q:=by
 refine W.fn (s:=fnOf Tryz.f314) rfl rfl rfl rfl ?_;repeat refine W.g ?_
 refine W.call rfl rfl rfl (index_w s sl hm ?_);by_cases c:0<=place l s
 ·repeat refine W.g ?_
  exact q true (Iff.intro (λ_=>place_mem.1 c) (λ_=>rfl))
 ·repeat refine W.g ?_
  exact q false (Iff.intro (λh=>by cases h) (λh=>absurd (place_mem.2 h) c))
theorem reserved_w {h:Heap} {tm:Tm} {Q:R->Prop} (s:Str) (rh:RH h)
  (q:∀h' (b:Bool),Ext h h'->(b=true↔s∈reserved)->Q (.val (.bool b) h')):W E1 (.call (.fn 301 [] []) [.str s]) tm h Q:=by
 refine W.fn (s:=fnOf Tryz.f301) rfl rfl rfl rfl ?_;repeat refine W.g ?_
 refine W.call rfl rfl rfl (W.knownN (v:= .slice (some (h.next,0)) 15 15 0) (news:=[reserved.map λs=> .str s]) rfl rh.1 ?_);have X:Ext h (kAdd h [reserved.map λs=> .str s]):=kAdd_ext _ _
 have sl:Sl (kAdd h [reserved.map λs=> .str s]) (.slice (some (h.next,0)) 15 15 0) reserved:=by
  refine Sl.of_map Flat.iff (.inr (.inr ⟨h.next,0,15,0,_,false,rfl,Nat.lt_succ_self _,new_same _ _,λj e he=> ?_,Nat.le_refl _,.inl rfl⟩))
  have hz:∀e∈reserved.map (Flat.enc:Str->List CV),e.length=1:=λe he=>by
   obtain⟨c,_,rfl⟩:=List.mem_map.1 he;rfl
  refine⟨hz e (List.mem_of_getElem? he),?_⟩;exact flat_cut hz he
 generalize kAdd h [reserved.map λs=> .str s]=H at X sl;repeat refine W.g ?_
 refine W.call rfl rfl rfl (contains_w s sl (by decide) λb hb=> ?_);repeat refine W.g ?_
 exact q H b X hb
theorem odd_w {h:Heap} {tm:Tm} {Q:R->Prop} (c:Int) (q:Q (.val (.bool (decide (c≠0))) h)):W E1 (.call (.fn 303 [] []) [.int .i64 c]) tm h Q:=by
 refine W.fn (s:=fnOf Tryz.f303) rfl rfl rfl rfl ?_;repeat refine W.g ?_
 exact q
theorem run_w {h:Heap} {tm:Tm} {Q:R->Prop} (s:Str) (hm:s.length<=24)
  (q:∀n:Nat,n<=s.length->(∀j c,j<n->s[j]? =some c->classB c.toNat≠0)->(∀c,s[n]? =some c->classB c.toNat=0)->Q (.val (.int .i64 (n:Int)) h)):W E1 (.call (.fn 302 [] []) [.str s,.fn 303 [] []]) tm h Q:=by
 refine W.fn (s:=fnOf Tryz.f302) rfl rfl rfl rfl ?_;repeat refine W.g ?_
 refine W.loop (σ:=Nat) (λk tm h'=>h'=h/\tm.look 0= .str s/\tm.look 1= .fn 303 [] []/\tm.look 5= .int .i64 (k:Int)/\k<=s.length/\∀j c,j<k->s[j]? =some c->classB c.toNat≠0) (λk=>s.length-k) ?_ (s:=0)
  ⟨rfl,rfl,rfl,rfl,Nat.zero_le _,λj c hj=>by omega⟩
 rintro k tm h' ⟨rfl,w0,w1,w5,hk,hn⟩;obtain⟨T,rfl⟩:=Tm.t3 w0 w1 w5;clear w0 w1 w5;by_cases c1:k<s.length
 ·repeat refine W.g ?_
  refine W.ixs (j:=k) (List.getElem?_eq_getElem c1) rfl rfl rfl rfl rfl rfl rfl ?_;refine W.call rfl rfl rfl (class_w _ ?_);repeat refine W.g ?_
  refine W.call rfl rfl rfl (odd_w _ ?_);rw[classI_nat];by_cases c2:classB s[k].toNat≠0
  ·repeat refine W.g ?_
   refine⟨k+1,lessN c1,rfl,rfl,rfl,rfl,c1,λj c hj hc=> ?_⟩;by_cases e:j=k
   ·subst e
    rw[List.getElem?_eq_getElem c1]at hc;cases hc;exact c2
   ·exact hn j c (by omega) hc
  ·repeat refine W.g ?_
   refine q k (by omega) hn λc hc=> ?_;rw[List.getElem?_eq_getElem c1]at hc;cases hc;exact Classical.byContradiction c2
 ·repeat refine W.g ?_
  exact q k hk hn λc hc=>by
   have:=(List.getElem?_eq_some_iff.1 hc).1;omega
theorem name_w {h:Heap} {tm:Tm} {Q:R->Prop} (s:Str) (rh:RH h)
  (q:∀h' (b:Bool),Ext h h'->(b=true↔NameOk s)->Q (.val (.bool b) h')):W E1 (.call (.fn 252 [] []) [.str s]) tm h Q:=by
 refine W.fn (s:=fnOf Tryz.f252) rfl rfl rfl rfl ?_;by_cases c0:s=[]
 ·repeat refine W.g ?_
  exact q h false (Ext.refl _) (Iff.intro (λh=>by cases h) (λh=>absurd c0 h.1))
 by_cases c1:24<s.length
 ·repeat refine W.g ?_
  exact q h false (Ext.refl _) (Iff.intro (λh=>by cases h) (λh=>by have:=h.2.1;omega))
 have hpos:0<s.length:=List.length_pos_iff.2 c0;repeat refine W.g ?_
 refine W.ixs (j:=0) (List.getElem?_eq_getElem hpos) rfl rfl rfl rfl rfl rfl rfl ?_;refine W.call rfl rfl rfl (class_w _ ?_);rw[classI_nat];by_cases c2:classB s[0].toNat≠1
 ·repeat refine W.g ?_
  exact q h false (Ext.refl _) (Iff.intro (λh=>by cases h) (λh=>absurd (h.2.2.1 _ (List.getElem?_eq_getElem hpos)) c2))
 repeat refine W.g ?_
 refine W.call rfl rfl rfl (reserved_w s rh λH b X hb=> ?_);cases b
 ·repeat refine W.g ?_
  refine W.call rfl rfl rfl (run_w s (by omega) λn hn h1 h2=> ?_);by_cases c3:(n:Int)=(s.length:Int)
  ·repeat refine W.g ?_
   refine q H true X (Iff.intro (λ_=>⟨c0,by omega,λc hc=> ?_,λhr=>(by cases hb.2 hr),λc hc=> ?_⟩) (λ_=>rfl))
   ·rw[List.getElem?_eq_getElem hpos]at hc
    cases hc;exact Classical.byContradiction c2
   ·obtain⟨j,hj⟩:=List.getElem?_of_mem hc
    have:=(List.getElem?_eq_some_iff.1 hj).1;exact h1 j c (by omega) hj
  ·repeat refine W.g ?_
   refine q H false X (Iff.intro (λh=>by cases h) (λh=> ?_));have hlt:n<s.length:=by omega
   exact absurd (h2 _ (List.getElem?_eq_getElem hlt)) (h.2.2.2.2 _ (List.getElem_mem hlt))
 ·repeat refine W.g ?_
  exact q H false X (Iff.intro (λh=>by cases h) (λh=>absurd (hb.1 rfl) h.2.2.2.1))
end
end Go.Proofs.YtnjkaahbhebaeaaGreatDoor

namespace Go.Proofs.YtnjkaahbhebaeaaGreatDoor
open Go Go.CM Go.CM.Tt
noncomputable section
set_option maxHeartbeats 8000000
theorem within_w {h:Heap} {tm:Tm} {Q:R->Prop} (lo x hi:Int) (q:Q (.val (.bool (decide (lo<=x/\x<=hi))) h)):W E1 (.call (.fn 149 [] []) [.int .i64 lo,.int .i64 x,.int .i64 hi]) tm h Q:=by
 refine W.fn (s:=fnOf Tryz.f149) rfl rfl rfl rfl ?_;by_cases c:lo<=x
 ·by_cases d:x<=hi
  ·rw[decide_eq_true (⟨c,d⟩:lo<=x/\x<=hi)]at q
   repeat refine W.g ?_
   exact q
  ·rw[decide_eq_false (λh=>d h.2:¬(lo<=x/\x<=hi))]at q
   repeat refine W.g ?_
   exact q
 ·rw[decide_eq_false (λh=>c h.1:¬(lo<=x/\x<=hi))]at q
  repeat refine W.g ?_
  exact q
theorem tick_w {h:Heap} {tm:Tm} {Q:R->Prop} (t:Int) (q:∀e:Int,(e=0↔TickOk t)->Q (.val (.int .i64 e) h)):W E1 (.call (.fn 72 [] []) [.int .i64 t]) tm h Q:=by
 refine W.fn (s:=fnOf Tryz.f72) rfl rfl rfl rfl ?_;repeat refine W.g ?_
 refine W.call rfl rfl rfl (within_w 0 t 1099511627776 ?_);by_cases c:0<=t/\t<=1099511627776
 ·repeat refine W.g ?_
  exact q 0 (Iff.intro (λ_=>c) (λ_=>rfl))
 ·repeat refine W.g ?_
  exact q 9 (Iff.intro (λh=>by cases h) (λh=>absurd h c))
theorem idxF_str {h:Heap} {tm:Tm} {Q:R->Prop} {v:CV} {l:List Str} (f:Nat) (first caps:List CV) (P:Str->Prop) (sl:Sl h v l) (hm:l.length<=1099511627776)
  (hf:∀d,d∈l->∀(tm:Tm) (h':Heap) (Q:R->Prop),Ext h h'->(∀h2 (b:Bool),Ext h' h2->(b=true↔P d)->Q (.val (.bool b) h2))->W E1 (.call (.fn f first caps) [.str d]) tm h' Q)
  (q:∀h' (r:Int),Ext h h'->(0<=r↔∃d,d∈l/\P d)->Q (.val (.int .i64 r) h')):W E1 (.call (.fn 299 [] []) [v,.fn f first caps]) tm h Q:=by
 refine W.fn (s:=fnOf Tryz.f299) rfl rfl rfl rfl ?_;repeat refine W.g ?_
 refine W.loop (σ:=Nat) (λk tm h'=>Ext h h'/\tm.look 0=v/\tm.look 1= .fn f first caps/\tm.look 7= .int .i64 (l.length:Int)/\tm.look 8= .int .i64 (k:Int)/\k<=l.length/\∀j,j<k->∀a,l[j]? =some a->¬P a) (λk=>l.length-k) ?_ (s:=0)
  ⟨Ext.refl _,rfl,rfl,rfl,rfl,Nat.zero_le _,λj hj=>by omega⟩
 rintro k tm h' ⟨X,w0,w1,w7,w8,hk,hn⟩;obtain⟨T,rfl⟩:=Tm.t4 w0 w1 w7 w8;clear w0 w1 w7 w8;by_cases c1:k<l.length
 ·repeat refine W.g ?_
  refine W.iz λi_ o_ L_=> ?_;repeat refine W.g ?_
  refine W.call rfl rfl rfl (hf l[k] (List.getElem_mem c1) _ _ _ X λh2 b X2 hb=> ?_);cases b
  ·repeat refine W.g ?_
   refine⟨k+1,lessN c1,X.trans X2,rfl,rfl,rfl,rfl,c1,λj hj a ha hp=> ?_⟩;by_cases e:j=k
   ·subst e
    rw[List.getElem?_eq_getElem c1]at ha;cases ha;cases hb.2 hp
   ·exact hn j (by omega) a ha hp
  ·repeat refine W.g ?_
   exact q _ _ (X.trans X2) (Iff.intro (λ_=>⟨l[k],List.getElem_mem c1,hb.1 rfl⟩) (λ_=>by omega))
 ·repeat refine W.g ?_
  refine q _ _ X (Iff.intro (λh=>by omega) (λh=> ?_));obtain⟨d,hd,hp⟩:=h;obtain⟨j,hj⟩:=List.getElem?_of_mem hd;exact absurd hp (hn j (by have:=(List.getElem?_eq_some_iff.1 hj).1;omega) d hj)
theorem conF_str {h:Heap} {tm:Tm} {Q:R->Prop} {v:CV} {l:List Str} (f:Nat) (first caps:List CV) (P:Str->Prop) (sl:Sl h v l) (hm:l.length<=1099511627776)
  (hf:∀d,d∈l->∀(tm:Tm) (h':Heap) (Q:R->Prop),Ext h h'->(∀h2 (b:Bool),Ext h' h2->(b=true↔P d)->Q (.val (.bool b) h2))->W E1 (.call (.fn f first caps) [.str d]) tm h' Q)
  (q:∀h' (b:Bool),Ext h h'->(b=true↔∃d,d∈l/\P d)->Q (.val (.bool b) h')):W E1 (.call (.fn 249 [] []) [v,.fn f first caps]) tm h Q:=by
 refine W.fn (s:=fnOf Tryz.f249) rfl rfl rfl rfl ?_;repeat refine W.g ?_
 refine W.call rfl rfl rfl (idxF_str f first caps P sl hm hf λh' r X hr=> ?_);by_cases c:0<=r
 ·repeat refine W.g ?_
  exact q h' true X (Iff.intro (λ_=>hr.1 c) (λ_=>rfl))
 ·repeat refine W.g ?_
  exact q h' false X (Iff.intro (λh=>by cases h) (λh=>absurd (hr.2 h) c))
theorem idxF_int {h:Heap} {tm:Tm} {Q:R->Prop} {v:CV} {l:List Int} (f:Nat) (first caps:List CV) (P:Int->Prop) (sl:Sl h v l) (hm:l.length<=1099511627776)
  (hf:∀d,d∈l->∀(tm:Tm) (h':Heap) (Q:R->Prop),Ext h h'->(∀h2 (b:Bool),Ext h' h2->(b=true↔P d)->Q (.val (.bool b) h2))->W E1 (.call (.fn f first caps) [.int .i64 d]) tm h' Q)
  (q:∀h' (r:Int),Ext h h'->(0<=r↔∃d,d∈l/\P d)->Q (.val (.int .i64 r) h')):W E1 (.call (.fn 304 [] []) [v,.fn f first caps]) tm h Q:=by
 refine W.fn (s:=fnOf Tryz.f304) rfl rfl rfl rfl ?_;repeat refine W.g ?_
 refine W.loop (σ:=Nat) (λk tm h'=>Ext h h'/\tm.look 0=v/\tm.look 1= .fn f first caps/\tm.look 7= .int .i64 (l.length:Int)/\tm.look 8= .int .i64 (k:Int)/\k<=l.length/\∀j,j<k->∀a,l[j]? =some a->¬P a) (λk=>l.length-k) ?_ (s:=0)
  ⟨Ext.refl _,rfl,rfl,rfl,rfl,Nat.zero_le _,λj hj=>by omega⟩
 rintro k tm h' ⟨X,w0,w1,w7,w8,hk,hn⟩;obtain⟨T,rfl⟩:=Tm.t4 w0 w1 w7 w8;clear w0 w1 w7 w8;by_cases c1:k<l.length
 ·repeat refine W.g ?_
  refine W.iz λi_ o_ L_=> ?_;repeat refine W.g ?_
  refine W.call rfl rfl rfl (hf l[k] (List.getElem_mem c1) _ _ _ X λh2 b X2 hb=> ?_);cases b
  ·repeat refine W.g ?_
   refine⟨k+1,lessN c1,X.trans X2,rfl,rfl,rfl,rfl,c1,λj hj a ha hp=> ?_⟩;by_cases e:j=k
   ·subst e
    rw[List.getElem?_eq_getElem c1]at ha;cases ha;cases hb.2 hp
   ·exact hn j (by omega) a ha hp
  ·repeat refine W.g ?_
   exact q _ _ (X.trans X2) (Iff.intro (λ_=>⟨l[k],List.getElem_mem c1,hb.1 rfl⟩) (λ_=>by omega))
 ·repeat refine W.g ?_
  refine q _ _ X (Iff.intro (λh=>by omega) (λh=> ?_));obtain⟨d,hd,hp⟩:=h;obtain⟨j,hj⟩:=List.getElem?_of_mem hd;exact absurd hp (hn j (by have:=(List.getElem?_eq_some_iff.1 hj).1;omega) d hj)
theorem conF_int {h:Heap} {tm:Tm} {Q:R->Prop} {v:CV} {l:List Int} (f:Nat) (first caps:List CV) (P:Int->Prop) (sl:Sl h v l) (hm:l.length<=1099511627776)
  (hf:∀d,d∈l->∀(tm:Tm) (h':Heap) (Q:R->Prop),Ext h h'->(∀h2 (b:Bool),Ext h' h2->(b=true↔P d)->Q (.val (.bool b) h2))->W E1 (.call (.fn f first caps) [.int .i64 d]) tm h' Q)
  (q:∀h' (b:Bool),Ext h h'->(b=true↔∃d,d∈l/\P d)->Q (.val (.bool b) h')):W E1 (.call (.fn 253 [] []) [v,.fn f first caps]) tm h Q:=by
 refine W.fn (s:=fnOf Tryz.f253) rfl rfl rfl rfl ?_;repeat refine W.g ?_
 refine W.call rfl rfl rfl (idxF_int f first caps P sl hm hf λh' r X hr=> ?_);by_cases c:0<=r
 ·repeat refine W.g ?_
  exact q h' true X (Iff.intro (λ_=>hr.1 c) (λ_=>rfl))
 ·repeat refine W.g ?_
  exact q h' false X (Iff.intro (λh=>by cases h) (λh=>absurd (hr.2 h) c))
theorem idxF_route {h:Heap} {tm:Tm} {Q:R->Prop} {v:CV} {l:List RouteS} (f:Nat) (first caps:List CV) (P:RouteS->Prop) (sl:Sl h v l) (hm:l.length<=1099511627776)
  (hf:∀d,d∈l->∀e,Rp.R h e d->∀(tm:Tm) (h':Heap) (Q:R->Prop),Ext h h'->(∀h2 (b:Bool),Ext h' h2->(b=true↔P d)->Q (.val (.bool b) h2))->W E1 (.call (.fn f first caps) [.agg e]) tm h' Q)
  (q:∀h' (r:Int),Ext h h'->(0<=r↔∃d,d∈l/\P d)->Q (.val (.int .i64 r) h')):W E1 (.call (.fn 306 [] []) [v,.fn f first caps]) tm h Q:=by
 refine W.fn (s:=fnOf Tryz.f306) rfl rfl rfl rfl ?_;repeat refine W.g ?_
 refine W.loop (σ:=Nat) (λk tm h'=>Ext h h'/\tm.look 0=v/\tm.look 1= .fn f first caps/\tm.look 7= .int .i64 (l.length:Int)/\tm.look 8= .int .i64 (k:Int)/\k<=l.length/\∀j,j<k->∀a,l[j]? =some a->¬P a) (λk=>l.length-k) ?_ (s:=0)
  ⟨Ext.refl _,rfl,rfl,rfl,rfl,Nat.zero_le _,λj hj=>by omega⟩
 rintro k tm h' ⟨X,w0,w1,w7,w8,hk,hn⟩;obtain⟨T,rfl⟩:=Tm.t4 w0 w1 w7 w8;clear w0 w1 w7 w8;by_cases c1:k<l.length
 ·repeat refine W.g ?_
  refine W.ixR (by assumption) c1 rfl rfl rfl rfl rfl rfl rfl λi_ o_ e L_ r_=> ?_;have hlen:=Rp.len r_;repeat refine W.g ?_
  refine W.call rfl rfl rfl (hf l[k] (List.getElem_mem c1) e r_ _ _ _ X λh2 b X2 hb=> ?_);cases b
  ·repeat refine W.g ?_
   refine⟨k+1,lessN c1,X.trans X2,rfl,rfl,rfl,rfl,c1,λj hj a ha hp=> ?_⟩;by_cases e:j=k
   ·subst e
    rw[List.getElem?_eq_getElem c1]at ha;cases ha;cases hb.2 hp
   ·exact hn j (by omega) a ha hp
  ·repeat refine W.g ?_
   exact q _ _ (X.trans X2) (Iff.intro (λ_=>⟨l[k],List.getElem_mem c1,hb.1 rfl⟩) (λ_=>by omega))
 ·repeat refine W.g ?_
  refine q _ _ X (Iff.intro (λh=>by omega) (λh=> ?_));obtain⟨d,hd,hp⟩:=h;obtain⟨j,hj⟩:=List.getElem?_of_mem hd;exact absurd hp (hn j (by have:=(List.getElem?_eq_some_iff.1 hj).1;omega) d hj)
theorem conF_route {h:Heap} {tm:Tm} {Q:R->Prop} {v:CV} {l:List RouteS} (f:Nat) (first caps:List CV) (P:RouteS->Prop) (sl:Sl h v l) (hm:l.length<=1099511627776)
  (hf:∀d,d∈l->∀e,Rp.R h e d->∀(tm:Tm) (h':Heap) (Q:R->Prop),Ext h h'->(∀h2 (b:Bool),Ext h' h2->(b=true↔P d)->Q (.val (.bool b) h2))->W E1 (.call (.fn f first caps) [.agg e]) tm h' Q)
  (q:∀h' (b:Bool),Ext h h'->(b=true↔∃d,d∈l/\P d)->Q (.val (.bool b) h')):W E1 (.call (.fn 256 [] []) [v,.fn f first caps]) tm h Q:=by
 refine W.fn (s:=fnOf Tryz.f256) rfl rfl rfl rfl ?_;repeat refine W.g ?_
 refine W.call rfl rfl rfl (idxF_route f first caps P sl hm hf λh' r X hr=> ?_);by_cases c:0<=r
 ·repeat refine W.g ?_
  exact q h' true X (Iff.intro (λ_=>hr.1 c) (λ_=>rfl))
 ·repeat refine W.g ?_
  exact q h' false X (Iff.intro (λh=>by cases h) (λh=>absurd (hr.2 h) c))
end
end Go.Proofs.YtnjkaahbhebaeaaGreatDoor

namespace Go.Proofs.YtnjkaahbhebaeaaGreatDoor
open Go Go.CM Go.CM.Tt
noncomputable section
theorem eqI {d:Nat} {t:Nat} {a b:Int} (ht:E1.ty t=some ⟨.int .i64,1,8,[.int .i64 0],false,false,[]⟩):eqT E1 (d+1) t (.int .i64 a) (.int .i64 b)=some (decide (a=b)):=by
 show(match E1.ty t with|some s=>eqK E1 (eqT E1 d) s (.int .i64 a) (.int .i64 b)|none=>none)=_
 rw[ht]
 show some (intEq a b)=_
 rw[intEq_eq]
 exact congrArg some (by rw[Bool.eq_iff_iff];simp)
theorem eqB {d:Nat} {t:Nat} {a b:Bool} (ht:E1.ty t=some ⟨.bool,1,1,[.bool false],false,false,[]⟩):eqT E1 (d+1) t (.bool a) (.bool b)=some (a==b):=by
 show(match E1.ty t with|some s=>eqK E1 (eqT E1 d) s (.bool a) (.bool b)|none=>none)=_
 rw[ht]
 rfl
theorem eqFs {rec:TypeId->CV->CV->Option Bool} {t off:Nat} {r:List (TypeId×Nat)} {xs ys:List CV} {s:TyS} {v v':CV} {b1 b2:Bool} (ht:E1.ty t=some s) (hp:CM.part xs off s.size s.agg=some v) (hp':CM.part ys off s.size s.agg=some v') (hv:rec t v v'=some b1) (hr:eqFields E1 rec r xs ys=some b2):eqFields E1 rec ((t,off)::r) xs ys=some (b1&&b2):=by
 show(match E1.ty t with
  |none=>none
  |some s=>match CM.part xs off s.size s.agg with
   |none=>none
   |some x=>match CM.part ys off s.size s.agg with
    |none=>none
    |some y=>match rec t x y with
     |some true=>eqFields E1 rec r xs ys
     |some false=>some false
     |none=>none)=some (b1&&b2)
 rw[ht]
 simp only[hp,hp',hv]
 cases b1
 ·rfl
 ·exact hr
theorem eqSt {d:Nat} {t:Nat} {xs ys:List CV} {fs:List (TypeId×Nat)} {z b:Nat} {zz:List CV} {ms:List (String×Option (Nat×Bool))} {r:Bool} (ht:E1.ty t=some ⟨.struct fs,z,b,zz,true,true,ms⟩) (hf:eqFields E1 (eqT E1 d) fs xs ys=some r):eqT E1 (d+1) t (.agg xs) (.agg ys)=some r:=by
 show(match E1.ty t with|some s=>eqK E1 (eqT E1 d) s (.agg xs) (.agg ys)|none=>none)=_
 rw[ht]
 exact hf
end
end Go.Proofs.YtnjkaahbhebaeaaGreatDoor
