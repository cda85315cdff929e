/- Texts of this claim, put together by program. -/
import Derived.Test.YtapbooddmdkgjaaGreatSxp
import Derived.Test.YtapbooddmdkgjaaGreatProg
import Derived.Test.YtapbooddmdkgjaaGreatMdlm
/- What the engine is told of the program: types, slots that live on. Printed by program. -/
namespace Go.Proofs.YtapbooddmdkgjaaGreat
namespace SX
open Go Go.RowKit
instance : TB Tryz.prog := ⟨{ fld := [(24, [(0, none), (1, none), (2, none), (3, none), (4, none), (5, none), (6, none), (7, none), (8, none)]), (28, [(0, some 9), (9, none), (10, none), (11, none), (12, none), (13, none), (14, none)]), (34, [(0, none), (1, none), (2, none), (3, none), (4, none), (5, none), (6, none), (7, none), (8, none)]), (38, [(0, some 9), (9, none), (10, none), (11, none), (12, none), (13, none), (14, none)]), (58, [(0, none), (1, none), (2, none), (3, none), (4, none), (5, none), (6, none), (7, none), (8, none), (9, none)]), (68, [(0, none), (1, none), (2, none), (3, none), (4, none), (5, none)]), (77, [(0, none), (1, none), (2, none), (3, none), (4, none)]), (81, [(0, none)]), (83, [(0, some 5), (5, none), (6, some 1)]), (91, [(0, none), (1, none)]), (102, [(0, none), (1, none), (2, none), (3, none), (4, none), (5, none)]), (135, [(0, none), (1, none), (2, none), (3, none), (4, none)]), (139, [(0, none)]), (141, [(0, some 5), (5, none), (6, some 1)]), (148, [(0, none), (1, none), (2, none), (3, none), (4, none), (5, none), (6, none), (7, none), (8, none), (9, none)]), (163, [(0, none), (1, none)]), (176, [(0, none), (1, none), (2, none)]), (198, [(0, none), (1, none), (2, none), (3, none)]), (238, [(0, none), (1, none), (2, none), (3, none)]), (266, [(0, none), (1, none)])], agg := [(24, 9), (28, 15), (34, 9), (38, 15), (58, 10), (68, 6), (77, 5), (81, 1), (83, 7), (91, 2), (102, 6), (135, 5), (139, 1), (141, 7), (148, 10), (163, 2), (176, 3), (198, 4), (238, 4), (266, 2)], zero := [(3, [.int .i64 0]), (5, [.int .u8 0]), (22, [.slice none 0 0]), (24, [.slice none 0 0, .int .i64 0, .int .i64 0, .int .i64 0, .int .i64 0, .int .i64 0, .int .i64 0, .int .i64 0, .int .i64 0]), (25, [.slice none 0 0]), (26, [.slice none 0 0]), (28, [.slice none 0 0, .int .i64 0, .int .i64 0, .int .i64 0, .int .i64 0, .int .i64 0, .int .i64 0, .int .i64 0, .int .i64 0, .int .i64 0, .int .i64 0, .slice none 0 0, .slice none 0 0, .slice none 0 0, .slice none 0 0]), (34, [.slice none 0 0, .int .i64 0, .int .i64 0, .int .i64 0, .int .i64 0, .int .i64 0, .int .i64 0, .int .i64 0, .int .i64 0]), (35, [.slice none 0 0]), (36, [.slice none 0 0]), (38, [.slice none 0 0, .int .i64 0, .int .i64 0, .int .i64 0, .int .i64 0, .int .i64 0, .int .i64 0, .int .i64 0, .int .i64 0, .int .i64 0, .int .i64 0, .slice none 0 0, .slice none 0 0, .slice none 0 0, .slice none 0 0]), (51, [.slice none 0 0]), (58, [.int .i64 0, .int .i64 0, .int .i64 0, .int .i64 0, .int .i64 0, .int .i64 0, .int .i64 0, .int .i64 0, .int .i64 0, .int .i64 0]), (68, [.int .i64 0, .int .i64 0, .int .i64 0, .int .i64 0, .int .i64 0, .int .i64 0]), (77, [.int .i64 0, .int .i64 0, .int .i64 0, .int .i64 0, .int .i64 0]), (78, [.slice none 0 0]), (79, [.slice none 0 0]), (81, [.slice none 0 0]), (83, [.int .i64 0, .int .i64 0, .int .i64 0, .int .i64 0, .int .i64 0, .slice none 0 0, .slice none 0 0]), (91, [.int .i64 0, .slice none 0 0]), (102, [.int .i64 0, .int .i64 0, .int .i64 0, .int .i64 0, .int .i64 0, .int .i64 0]), (135, [.int .i64 0, .int .i64 0, .int .i64 0, .int .i64 0, .int .i64 0]), (136, [.slice none 0 0]), (137, [.slice none 0 0]), (139, [.slice none 0 0]), (141, [.int .i64 0, .int .i64 0, .int .i64 0, .int .i64 0, .int .i64 0, .slice none 0 0, .slice none 0 0]), (148, [.int .i64 0, .int .i64 0, .int .i64 0, .int .i64 0, .int .i64 0, .int .i64 0, .int .i64 0, .int .i64 0, .int .i64 0, .int .i64 0]), (163, [.int .i64 0, .int .i64 0]), (172, [.slice none 0 0]), (176, [.slice none 0 0, .int .i64 0, .int .i64 0]), (198, [.int .i64 0, .int .i64 0, .int .i64 0, .int .i64 0]), (238, [.int .i64 0, .int .i64 0, .int .i64 0, .int .i64 0]), (256, [.slice none 0 0]), (266, [.int .i64 0, .int .i64 0]), (280, [.int .u64 0])], row := [(22, 3, 1), (25, 148, 10), (26, 141, 7), (29, 102, 6), (35, 58, 10), (36, 83, 7), (40, 68, 6), (51, 5, 1), (73, 91, 2), (78, 198, 4), (79, 172, 1), (136, 238, 4), (137, 256, 1), (172, 163, 2), (256, 266, 2)], ik := [(3, .i64), (5, .u8), (218, .u64), (275, .u32), (280, .u64)], nm := [(58, fun l => match l with | [.int _ x0, .int _ x1, .int _ x2, .int _ x3, .int _ x4, .int _ x5, .int _ x6, .int _ x7, .int _ x8, .int _ x9] => some (partyE ⟨x0, x1, x2, x3, x4, x5, x6, x7, x8, x9⟩) | _ => none), (68, fun l => match l with | [.int _ x0, .int _ x1, .int _ x2, .int _ x3, .int _ x4, .int _ x5] => some (reqE ⟨x0, x1, x2, x3, x4, x5⟩) | _ => none), (77, fun l => match l with | [.int _ x0, .int _ x1, .int _ x2, .int _ x3, .int _ x4] => some (ledgerE ⟨x0, x1, x2, x3, x4⟩) | _ => none), (102, fun l => match l with | [.int _ x0, .int _ x1, .int _ x2, .int _ x3, .int _ x4, .int _ x5] => some (reqE ⟨x0, x1, x2, x3, x4, x5⟩) | _ => none), (135, fun l => match l with | [.int _ x0, .int _ x1, .int _ x2, .int _ x3, .int _ x4] => some (ledgerE ⟨x0, x1, x2, x3, x4⟩) | _ => none), (148, fun l => match l with | [.int _ x0, .int _ x1, .int _ x2, .int _ x3, .int _ x4, .int _ x5, .int _ x6, .int _ x7, .int _ x8, .int _ x9] => some (partyE ⟨x0, x1, x2, x3, x4, x5, x6, x7, x8, x9⟩) | _ => none), (163, fun l => match l with | [.int _ x0, .int _ x1] => some (pinE ⟨x0, x1⟩) | _ => none), (198, fun l => match l with | [.int _ x0, .int _ x1, .int _ x2, .int _ x3] => some (entryE ⟨x0, x1, x2, x3⟩) | _ => none), (238, fun l => match l with | [.int _ x0, .int _ x1, .int _ x2, .int _ x3] => some (entryE ⟨x0, x1, x2, x3⟩) | _ => none), (266, fun l => match l with | [.int _ x0, .int _ x1] => some (pinE ⟨x0, x1⟩) | _ => none)], loud := [1, 15, 16, 17, 18, 19, 22, 23, 24, 25, 26, 27, 28, 29, 30, 31, 33, 34, 35, 36, 37, 38, 39, 40, 41, 42, 43, 44, 45, 46, 47, 48, 49, 50, 51, 52, 53, 54, 55, 56, 59, 60, 61, 62, 63, 64, 65, 66, 69, 70, 71, 72, 73, 74, 75, 78, 79, 80, 81, 82, 83, 84, 85, 86, 87, 88, 89, 90, 91, 92, 93, 94, 95, 96, 97, 98, 99, 100, 101, 103, 104, 105, 106, 107, 108, 109, 110, 111, 112, 113, 114, 115, 116, 117, 118, 119, 120, 121, 122, 123, 124, 125, 126, 127, 128, 129, 130, 131, 132, 133, 134, 136, 137, 138, 139, 140, 141, 142, 143, 144, 145, 146, 147, 149, 150, 151, 152, 153, 154, 155, 156, 157, 159, 160, 161, 164, 165, 166, 167, 168, 169, 170, 171, 172, 173, 174, 175, 176, 177, 178, 179, 180, 181, 182, 183, 184, 185, 186, 187, 188, 189, 190, 191, 192, 193, 194, 195, 196, 199, 200, 202, 203, 204, 205, 206, 207, 208, 209, 210, 211, 212, 213, 214, 215, 216, 217, 219, 221, 222, 223, 224, 225, 226, 227, 228, 229, 230, 231, 232, 233, 234, 235, 236, 237, 239, 240, 241, 242, 243, 244, 245, 246, 247, 248, 249, 250, 251, 252, 253, 254, 255, 256, 257, 258, 259, 260, 261, 262, 263, 264, 265, 267, 270, 271, 272, 273, 274, 276, 278, 279, 281, 282, 283, 284, 285, 286, 287, 289, 290, 291, 292, 296, 299, 300, 303, 304], live := [(3, [0, 1, 2, 3, 6, 7, 8, 9, 10, 11, 12, 13, 18, 23, 51, 56, 61]),
  (4, [0, 1, 2, 4, 5, 6, 7, 8, 9, 10, 11, 12, 13, 18, 23, 39, 44, 49, 63, 71, 74, 83, 88, 91]),
  (5, [0, 2, 3, 4, 5, 7, 8, 10, 26, 29, 37, 57]),
  (6, [0, 2, 3, 4, 5, 7, 9, 35]),
  (7, [0, 2, 3, 4, 5, 7, 19, 21]),
  (8, [0, 2, 3, 5, 6, 8, 9, 10, 12, 31, 39, 47]),
  (9, [0, 2, 3, 4, 5, 6, 8, 9, 11, 22, 38, 66]),
  (10, [0, 2, 3, 4, 5, 6, 7, 8, 9, 11, 39, 42]),
  (11, [0, 1, 2, 4, 10, 16, 22, 28, 34]),
  (12, [0, 1, 4, 10]),
  (13, [0, 1, 2, 3, 6, 7, 8, 9, 10, 11, 12, 13, 21, 28, 41, 90]),
  (14, [0, 1, 2, 3]),
  (15, [0, 2, 3, 4, 11]),
  (16, [0, 1, 2, 3, 6, 7, 8, 9, 11, 12, 13, 14, 15, 16, 19, 22, 23, 24, 25, 32, 81, 83]),
  (17, [0, 1, 2, 3, 4, 10, 15, 20, 26, 32, 38, 44]),
  (18, [0, 1, 4, 5, 10, 14, 26]),
  (19, [0, 1, 2, 4, 5, 6, 7, 8, 13, 38]),
  (20, [0, 1, 2, 4, 5, 6, 7, 8, 9, 10, 13, 14, 15, 16, 39]),
  (21, [0, 1, 4, 5, 10, 14, 25]),
  (22, [0, 1, 2, 4]),
  (23, [0, 1, 4, 5, 9]),
  (24, [0, 1, 4, 5, 9]),
  (25, [0, 1, 4, 5, 9, 17]),
  (26, [0, 2]),
  (27, [0, 2]),
  (28, [0, 1, 2, 3, 4, 5, 7, 12, 15, 16, 17, 18, 30]),
  (29, [0, 1, 2, 3, 4, 5, 6, 7, 14, 21, 41]),
  (30, [0, 1, 4, 5, 10, 14, 25]),
  (31, [0, 1, 2, 3, 35, 43, 48, 90]),
  (32, [0, 1, 2, 4]),
  (33, [0, 2, 3, 4, 5, 6, 7, 9, 10, 26, 27, 31, 40, 44]),
  (34, [0, 1, 2, 4, 5, 6, 7, 8, 9, 20]),
  (35, [0, 1, 2, 3, 4, 6, 7, 9, 10, 14, 18, 19, 20, 21, 47]),
  (36, [0, 2]),
  (37, [0, 1, 2, 3, 4, 5, 12]),
  (38, [0, 1, 2, 3, 4, 7, 11, 14, 16, 17, 22, 28, 29, 36, 40, 47, 48, 55, 59, 60, 67, 80]),
  (39, [0, 1, 2, 4, 13, 15, 16, 17, 18, 22]),
  (40, [0, 1, 2]),
  (41, [0, 1, 2, 3, 5, 8, 10, 11, 12, 13, 19]),
  (42, [0, 2, 3, 4, 5, 11]),
  (43, [0, 1, 2, 4, 5, 6, 7, 8, 9, 10, 15, 20, 35]),
  (44, [0, 1, 2, 4, 5, 6, 7, 8, 9, 10, 16, 22, 37]),
  (45, [0, 1, 2, 3, 4, 5, 6, 61, 66, 79, 84, 98]),
  (46, [0, 2, 3, 4, 5, 11]),
  (47, [0, 1, 2, 4, 5, 6, 7, 9, 10, 11, 14, 15, 16, 17]),
  (48, [0, 1, 2]),
  (49, [0, 2, 3, 4, 5, 6, 7, 8, 28]),
  (50, [0, 1, 2, 4, 10]),
  (51, [0, 1, 4, 10]),
  (52, [0, 1, 4, 5, 11, 15, 25]),
  (53, [0, 1, 4, 10]),
  (54, [0, 1, 2, 4]),
  (55, [0, 1, 2, 3, 4, 5, 6, 7, 8, 15, 21, 30, 47, 56, 67, 76, 85]),
  (56, [0, 1, 4, 5, 9, 17]),
  (57, [0, 1, 2, 4, 5, 6, 16]),
  (58, [0, 1, 2, 3, 4, 6, 11]),
  (59, [0, 1, 2, 3]),
  (60, [0, 2, 3, 4, 11]),
  (61, [0, 2, 3, 4, 11]),
  (62, [0, 2, 3, 4, 11]),
  (63, [0, 1, 2, 3]),
  (64, [0, 1, 2, 3, 4, 5, 7, 8, 9, 10, 11, 13, 49, 53, 55, 56, 57, 58, 91, 95, 96, 97, 98, 133, 137, 138, 139, 140, 175, 178, 179, 180, 181, 196, 199, 200, 201, 202, 209]),
  (65, [0, 1, 2, 3, 5, 24, 25, 26, 27]),
  (66, [0, 1, 2, 4]),
  (67, [0, 1, 2, 3, 4, 5, 6, 7, 11, 16, 24, 25, 27, 48, 56, 63, 68, 74, 84, 97, 101, 107, 108, 110, 116, 121, 129, 136, 139, 147, 156, 160, 161, 163, 170]),
  (68, [0, 1, 2, 4, 5, 6, 16]),
  (69, [0, 1, 2, 3, 4, 6, 11]),
  (70, [0, 1, 2, 3, 4, 5, 6, 7, 8, 13, 19, 30, 48, 58, 70, 80, 90]),
  (71, [0, 1, 4]),
  (72, [0, 1, 2, 3, 4, 10, 15, 20, 25, 30, 35, 40, 45, 50]),
  (73, [0, 1, 4, 5, 10, 14, 26]),
  (74, [0, 1, 4, 5, 10, 14, 26]),
  (75, [0, 1, 2, 3, 4, 9, 14, 19, 24, 29, 34]),
  (76, [0, 1, 2, 3, 4]),
  (77, [0, 1, 2, 4]),
  (78, [0, 1, 4, 5, 9]),
  (79, [0, 1, 4, 5, 9]),
  (80, [0, 2, 3, 7]),
  (81, [0, 1, 2, 4, 5, 6, 7, 8, 9, 10, 18, 68]),
  (82, [0, 1, 2, 3, 4, 29]),
  (83, [0, 1, 2, 4]),
  (84, [0, 1, 2, 4, 5, 6, 7, 8, 9, 17, 65]),
  (85, [0, 1, 2, 3, 32, 37, 46]),
  (86, [0, 1, 2, 6]),
  (87, [0, 1, 2, 3, 4, 5, 6, 11, 48, 51, 91]),
  (88, [0, 1, 2, 3, 4, 9, 34, 39, 52]),
  (89, [0, 1, 2, 3, 4, 5, 6, 10]),
  (90, [0, 1, 4, 5, 6, 10, 19]),
  (91, [0, 2, 3, 4, 5, 11, 15]),
  (92, [0, 2, 3, 4, 15]),
  (93, [0, 2, 5]),
  (94, [0, 1, 2, 4, 5, 6, 7, 8, 9, 16, 29]),
  (95, [0, 1, 4, 5, 6, 7, 8, 10, 12]),
  (96, [0, 2, 3, 4, 5, 11]),
  (97, [0, 1, 2, 4, 5, 7, 12, 13, 14, 15]),
  (98, [0, 1, 2, 4, 5, 6, 7, 8, 9, 16]),
  (99, [0, 1, 2, 4]),
  (100, [0, 1, 2, 3, 4, 6]),
  (101, [0, 1, 2, 3, 6, 7, 8, 10, 31, 33, 34, 35, 36, 55]),
  (102, [0, 1, 4]),
  (103, [0, 1, 2, 3, 4]),
  (104, [0, 1, 2, 3, 4, 5, 6, 13, 22, 23, 24, 43]),
  (105, [0, 1, 2, 3, 4, 9, 17]),
  (106, [0, 1, 2, 4, 5, 30, 47, 68]),
  (107, [0, 1, 2, 3, 4, 25, 32, 38, 42, 47, 56, 68, 71]),
  (108, [0, 1, 2, 4]),
  (109, [0, 1, 2, 4, 5, 10, 17, 25]),
  (110, [0, 1, 2, 3, 8, 16]),
  (111, [0, 2, 3, 7, 8, 11, 16, 18]),
  (112, [0, 1, 4]),
  (113, [0, 2, 3, 4, 11, 12, 16, 20, 28, 36, 49, 54, 60, 70, 77, 82, 87]),
  (114, [0, 1, 4]),
  (115, [0, 1, 2, 6]),
  (116, [0, 1, 4, 7]),
  (117, [0, 1, 2, 3, 4, 5, 12, 20]),
  (118, [0, 1, 2, 3, 4]),
  (119, [0, 1, 4, 5, 10, 14, 25]),
  (120, [0, 1, 2, 3, 4]),
  (121, [0, 2, 3, 6]),
  (122, [0, 1, 2, 4, 6, 7, 8, 9, 13, 20, 25]),
  (123, [0, 1, 2, 6, 7, 15]),
  (124, [0, 1, 2, 6]),
  (125, [0, 1, 2, 4, 10, 16]),
  (126, [0, 1, 4, 5, 9, 18]),
  (127, [0, 1, 2, 3, 4, 5, 6, 12, 13, 14, 15, 16, 28, 54]),
  (128, [0, 1, 2, 4, 5, 6, 7, 8, 16, 28]),
  (129, [0, 1, 2, 3, 6, 7, 8, 9, 18]),
  (130, [0, 1, 2, 4, 5, 6, 7, 8, 16]),
  (131, [0, 1, 2, 3, 4, 5, 6, 13, 24, 44]),
  (132, [0, 1, 2, 4, 5, 6, 7, 8, 9, 10, 11, 19, 29]),
  (133, [0, 1, 2, 4]),
  (134, [0, 1, 2, 4, 5, 11]),
  (135, [0, 1, 2, 3, 4, 6, 47, 84]),
  (136, [0, 1, 2, 3, 6]),
  (137, [0, 1, 2, 3]),
  (138, [0, 1, 2, 3]),
  (139, [0, 1, 2, 4, 9, 11, 12, 13, 14, 19]),
  (140, [0, 1, 2, 3, 4, 6, 46, 81]),
  (141, [0, 1, 4, 5, 7, 8, 9, 10, 11, 17]),
  (142, [0, 1, 2, 3, 4, 5, 6, 10]),
  (143, [0, 1, 4]),
  (144, [0, 1, 2]),
  (145, [0, 2]),
  (146, [0, 1, 2]),
  (147, [0, 1, 3, 4]),
  (148, [0, 1, 2, 3, 5, 6, 35, 53, 76]),
  (149, [0, 1, 2, 4]),
  (150, [0, 1, 2, 4]),
  (151, [0, 1, 2, 3, 6, 20]),
  (152, [0, 1, 2, 3, 4, 5, 6, 12, 13, 14, 15, 16, 17, 30, 78]),
  (153, [0, 1, 2, 4, 5, 6, 7, 8, 9, 17, 34, 83]),
  (154, [0, 1, 2, 3, 6, 7, 8, 9, 18]),
  (155, [0, 1, 2, 4, 5, 6, 7, 8, 16]),
  (156, [0, 1, 2, 4, 5, 6, 7, 8, 9, 10, 18, 26]),
  (157, [0, 1, 4, 5, 7, 8, 9, 16]),
  (158, [0, 1, 2, 3, 4, 9, 14, 19, 24, 29, 34, 39, 44, 49, 54]),
  (159, [0, 1, 2, 3, 4, 10, 16, 22]),
  (160, [0, 1, 2, 3, 4]),
  (161, [0, 1, 4, 5, 10, 12, 13, 14, 24]),
  (162, [0, 1, 4, 5, 10, 12, 13, 14, 24]),
  (163, [0, 1, 2, 6, 7, 8, 9, 14, 15, 16, 17, 18, 30]),
  (164, [0, 1, 2, 3, 4]),
  (165, [0, 1, 4, 5, 9]),
  (166, [0, 1, 4, 5, 9]),
  (167, [0, 1, 2, 3, 4, 5]),
  (168, [0, 1, 2, 3, 4, 5, 6, 7, 8, 18, 31]),
  (169, [0, 1, 4, 5, 6, 13]),
  (170, [0, 1, 2, 3, 4, 5]),
  (171, [0, 1, 2, 3, 4, 5]),
  (172, [0, 1, 4, 5, 11]),
  (173, [0, 1, 2]),
  (174, [0, 1, 2]),
  (175, [0, 1, 2, 4, 5]),
  (176, [0, 1, 2, 3, 4, 5, 6, 7, 8, 18, 30, 42]),
  (177, [0, 1, 2, 3, 4, 13]),
  (178, [0, 1, 2, 3, 6]),
  (179, [0, 1, 2]),
  (180, [0, 1, 4, 5, 10, 14, 25]),
  (181, [0, 1, 2, 3, 4, 8, 9, 10, 11, 12, 18, 40]),
  (182, [0, 1, 4, 5, 10, 14, 25]),
  (183, [0, 1, 2, 3, 4, 5, 9, 16]),
  (184, [0, 1, 4, 5, 6, 11, 28]),
  (185, [0, 1, 4, 5, 6, 10, 35]),
  (186, [0, 1, 4, 5, 6, 10, 27]),
  (187, [0, 1, 4, 7]),
  (188, [0, 1, 2, 4]),
  (189, [0, 1, 2, 4, 5, 6, 13]),
  (190, [0, 1, 2, 4, 5, 6, 7, 8, 13]),
  (191, [0, 2, 3, 34]),
  (192, [0, 1, 2, 4, 5, 7, 11, 20, 21, 22, 23]),
  (193, [0, 1, 2, 4, 5, 6, 7, 8, 9, 60, 95]),
  (194, [0, 1, 2, 4, 5, 7, 8, 9, 13, 15, 16, 17, 18, 24, 44]),
  (195, [0, 1, 2, 3, 4, 5]),
  (196, [0, 1, 4, 5, 6, 7, 14]),
  (197, [0, 1, 3, 4, 5, 6, 7, 15, 25]),
  (198, [0, 1, 2, 3, 4, 5, 6, 7, 8, 18, 39, 55]),
  (199, [0, 1, 2, 3, 4, 5, 6, 8, 9, 10]),
  (200, [0, 1, 4, 5, 7, 8, 9, 16]),
  (201, [0, 1, 2, 3, 4, 8, 9, 11, 12, 13, 14, 15, 16, 17, 33]),
  (202, [0, 2]),
  (203, [0, 2, 3, 4, 6, 7, 8, 9, 10, 11, 26, 57, 80, 94, 111, 121, 125]),
  (204, [0, 1, 2, 4, 6, 7, 8, 11, 20, 21, 27, 31, 35, 39, 43, 47, 51, 55, 59]),
  (205, [0, 2, 3, 5, 18]),
  (206, [0, 1, 2, 3, 4]),
  (207, [0, 1, 2, 3, 4, 5, 6, 8, 11, 20, 41]),
  (208, [0, 2, 3, 4, 5, 35]),
  (209, [0, 1, 3, 4, 5, 6, 7, 19, 36, 37, 63, 69, 73, 83, 87, 91]),
  (210, [0, 1, 3, 4, 5, 10, 23, 35]),
  (211, [0, 1, 3, 4, 5, 6, 14, 15, 19, 23, 27, 31, 35]),
  (212, [0, 1, 4, 10]),
  (213, [0, 1, 2, 4, 10]),
  (214, [0, 1, 3, 4, 5, 6, 15, 34]),
  (215, [0, 1, 2, 3, 4, 5]),
  (216, [0, 1, 2, 4, 5]),
  (217, [0, 1, 4, 5, 11]),
  (218, [0, 1, 2, 3, 4, 5]),
  (219, [0, 1, 4, 5, 6, 11]),
  (220, [0, 1, 2, 3, 4, 5, 6, 20]),
  (221, [0, 1, 2, 3]),
  (222, [0, 2, 3, 4, 11]),
  (223, [0, 1, 2, 3]),
  (224, [0, 1, 2]),
  (225, [0, 1, 4, 5, 10, 12, 13, 14, 24]),
  (226, [0, 1, 4, 5, 10, 12, 13, 14, 24]),
  (227, [0, 1, 2, 3, 5, 8, 10, 11, 12, 13]),
  (228, [0, 1, 4, 5, 7, 8, 9, 10, 11, 22]),
  (229, [0, 1, 4, 5, 7, 8, 9, 10, 11, 27]),
  (230, [0, 1, 4, 5, 7, 8, 9, 10, 11, 22]),
  (231, [0, 2]),
  (232, [0, 1, 2, 3, 5, 7, 8, 9, 10]),
  (233, [0, 1, 2, 3]),
  (234, [0, 2]),
  (235, [0, 1, 2, 3, 4, 6, 7, 17]),
  (236, [0, 1, 3, 4, 5, 6, 7, 8, 22, 38]),
  (237, [0, 1, 2, 3, 4, 5]),
  (238, [0, 1, 2, 3, 4, 5]),
  (239, [0, 1, 2, 3, 4, 9, 14, 19, 24, 29]),
  (240, [0, 1, 4, 5, 10, 14, 26]),
  (241, [0, 1, 2, 3, 4, 10]),
  (242, [0, 1, 2, 3, 4]),
  (243, [0, 1, 4, 5, 9]),
  (244, [0, 1, 2, 3, 6, 7, 8, 16, 23]),
  (245, [0, 1]),
  (246, [0, 1, 2, 3, 4, 5, 6, 7, 8, 12, 15, 16, 17, 18, 22, 23, 24, 25, 52]),
  (247, [0, 1, 2]),
  (248, [0, 1, 3, 4, 5, 7, 8, 9, 16]),
  (249, [0, 1, 2, 6, 7, 16]),
  (250, [0, 1, 2, 6, 7, 16]),
  (251, [0, 1]),
  (252, [0, 1]),
  (253, [0, 2]),
  (254, [0, 1, 2, 3, 4, 10]),
  (255, [0, 1, 2, 3, 4, 5, 6, 12, 13, 14, 22, 53]),
  (256, [0, 1, 2, 3, 4, 5, 6, 7, 18, 22, 40, 43, 56, 61, 71, 110]),
  (257, [0, 1, 4, 5, 10]),
  (258, [0, 1, 2, 4, 5]),
  (259, [0, 1, 2, 4, 5]),
  (260, [0, 1, 2]),
  (261, [0, 2, 3, 4, 7, 11, 39, 59]),
  (262, [0, 1, 2, 3, 4, 6, 7, 8, 19]),
  (263, [0, 1, 3, 4, 5, 6, 18]),
  (264, [0, 1, 2, 3, 4, 10]),
  (265, [0, 1, 3, 4, 5, 6, 18]),
  (266, [0, 1, 2, 4, 5, 6, 7, 21]),
  (267, [0, 1, 2, 4, 5, 6, 7, 13, 23, 49]),
  (268, [0, 1, 2, 4, 5]),
  (269, [0, 1, 2, 3, 4, 5, 6, 7, 17, 35]),
  (270, [0, 1, 2, 4, 5, 7, 9, 10, 11, 12, 18]),
  (271, [0, 1, 2, 3, 4, 6, 7, 25]),
  (272, [0, 1, 2, 4, 5, 6]),
  (273, [0, 1]),
  (274, [0, 1, 3, 4]),
  (275, [0, 1, 2, 6, 7, 16]),
  (276, [0, 1, 2, 3]),
  (277, [0, 1, 2, 6, 7, 8, 9, 16, 22, 31, 68]),
  (278, [0, 1, 2, 3, 4, 5, 12]),
  (279, [0, 1, 2, 6, 7, 8, 9, 16, 22, 31, 68]),
  (280, [0, 1]),
  (281, [0, 1, 2, 3, 4, 5, 12]),
  (282, [0, 1, 2, 4, 6, 7, 34, 41, 51, 62]),
  (283, [0, 1, 2, 3, 4, 5, 6, 18, 34]),
  (284, [0, 1, 2, 3, 4, 5, 10, 11, 12, 13, 14, 15, 16, 17, 25]),
  (285, [0, 2, 3, 4, 11, 12, 16, 20, 24, 28]),
  (286, [0, 2, 3, 4, 8, 9, 16, 20]),
  (287, [0, 2, 3, 4, 8, 9, 26, 34]),
  (288, [0, 2]),
  (289, [0, 2, 3, 4, 5, 12]),
  (290, [0, 1, 4, 5, 11, 15, 25]),
  (291, [0, 1, 2, 4, 5]),
  (292, [0, 1, 4, 5, 9, 18]),
  (293, [0, 1, 2, 3, 4, 6, 7, 25]),
  (294, [0, 1, 2, 3]),
  (295, [0, 2, 3, 4, 11]),
  (296, [0, 2, 3, 4, 7, 8, 9, 10, 11, 35, 57]),
  (297, [0, 1, 4]),
  (298, [0, 1]),
  (299, [0, 1, 2, 3, 4]),
  (300, [0, 1, 2, 6, 7, 8, 9, 16, 22, 31, 68]),
  (301, [0, 1]),
  (302, [0, 1]),
  (303, [0, 1, 2, 3, 4, 9, 14, 19, 24]),
  (304, [0, 1, 4, 5, 10, 14, 26]),
  (305, [0, 1, 2, 3, 4]),
  (306, [0, 1, 2, 3, 4]),
  (307, [0, 1, 2, 4, 5, 6, 7, 14, 23]),
  (308, [0, 1, 2, 6, 7, 11, 30]),
  (309, [0, 1, 4, 5, 7, 8, 9, 16]),
  (310, [0, 1, 2, 3, 4]),
  (311, [0, 1, 2, 3]),
  (312, []),
  (313, [0, 1]),
  (314, [0, 1, 4, 5, 6, 11, 12, 13, 16, 19]),
  (315, []),
  (316, [0, 1]),
  (317, [0, 1, 2, 6, 7, 8, 9, 13, 30, 35, 54]),
  (318, [0, 1, 2, 5]),
  (319, [0, 2, 3]),
  (320, [0, 2, 3, 4, 5, 6, 11, 17, 23]),
  (321, [0, 2, 3, 4, 21, 22, 26, 30, 34]),
  (322, [0, 2, 3, 4, 5, 6, 11, 13, 27]),
  (323, [0, 2, 3, 12, 13, 19]),
  (324, [0, 2, 3, 4, 10]),
  (325, [0, 1, 4, 10]),
  (326, [0, 2, 3, 4, 11]),
  (327, [0, 1, 2, 3, 4, 10, 11, 12, 13, 14, 15, 16, 17, 18, 19, 20, 25, 32, 39, 56, 75, 80, 97, 125]),
  (328, [0, 2]),
  (329, [0, 1, 2, 6, 7, 8, 9, 13, 30, 35, 54]),
  (330, []),
  (331, [0, 1]),
  (332, [0, 1, 4, 5, 10, 14, 26]),
  (333, [0, 1]),
  (334, [0, 2]),
  (335, [0, 1]),
  (336, [0, 1, 2, 3, 8, 9, 14, 34]),
  (337, [0, 1, 2, 3, 4, 10, 11, 12, 13, 14, 15, 16, 17, 18, 19, 20, 21, 22, 23, 24, 28, 33, 50, 58, 80, 85, 103, 110, 140, 151, 171, 185, 199, 213]),
  (338, [0, 1, 3, 4, 5, 6, 17]),
  (339, [0, 2, 3, 4, 5, 11]),
  (340, [0, 1, 2, 3]),
  (341, [0, 1, 2, 3, 8, 9, 14, 34]),
  (342, [0, 1, 2, 3, 8, 9, 10, 11, 12, 21, 33]),
  (343, [0, 1, 2, 8, 9, 10, 11, 12, 17, 35, 45]),
  (344, [0, 1, 2, 3, 8, 9, 10, 11, 12, 13, 14, 34, 36, 55, 57, 60]),
  (345, [0, 1, 2, 8, 9, 15]),
  (346, [0, 1, 2, 3, 8, 9, 10, 11, 12, 16, 36, 41, 45, 65, 69, 84, 104, 109, 124]),
  (347, [0, 1, 2, 3, 4, 10, 11, 12, 47, 65, 70]),
  (348, [0, 1, 2, 3, 4, 10, 11, 12, 13, 47, 66, 71, 120, 139, 144]),
  (349, [0, 2, 4, 8]),
  (350, [0, 2, 4, 8, 14]),
  (351, [0, 1, 2, 3, 4, 10, 11, 12, 13, 14, 15, 16, 17, 18, 19, 20, 21, 22, 23, 24, 28, 33, 50, 58, 80, 85, 103, 110, 140, 151, 171, 185, 199, 213]),
  (352, [0, 1]),
  (353, [0, 1, 2, 3, 4, 9, 14]),
  (354, [0, 2, 3, 9]),
  (355, [0, 2, 3, 9]),
  (356, [0, 1, 2, 3, 4, 10, 11, 20, 23]),
  (357, [0, 1, 2, 3, 4, 10, 11, 18, 40, 58]),
  (358, [0, 2]),
  (360, [0, 1, 2, 3, 8]),
  (361, [0, 1, 2, 3, 4, 5, 12]),
  (362, [0, 1, 2, 3, 4, 10, 11, 20, 23]),
  (363, [0, 2, 3, 9]),
  (364, [0, 1, 2, 3, 10, 13]),
  (365, [0, 1, 2, 3, 4, 10, 11, 22]),
  (366, [0, 1, 2, 3, 10, 13])] }⟩

instance : ElT Tryz.prog 3 Int 1 (fun z => [.int .i64 z]) (fun z => ⟨rfl, by simp [isCell]⟩) := ⟨.int .i64 0, 0, 8, fun l => match l with | [.int _ n] => some n | _ => none, by kernel_rfl, rfl, by decide, by decide⟩
instance : ElT Tryz.prog 58 Party 10 partyE partyH := ⟨.agg #[vi 0, vi 0, vi 0, vi 0, vi 0, vi 0, vi 0, vi 0, vi 0, vi 0], ⟨0, 0, 0, 0, 0, 0, 0, 0, 0, 0⟩, 80, fun l => match l with | [.int _ x0, .int _ x1, .int _ x2, .int _ x3, .int _ x4, .int _ x5, .int _ x6, .int _ x7, .int _ x8, .int _ x9] => some ⟨x0, x1, x2, x3, x4, x5, x6, x7, x8, x9⟩ | _ => none, by kernel_rfl, rfl, by decide, by decide⟩
instance : ElT Tryz.prog 68 Req 6 reqE reqH := ⟨.agg #[vi 0, vi 0, vi 0, vi 0, vi 0, vi 0], ⟨0, 0, 0, 0, 0, 0⟩, 48, fun l => match l with | [.int _ x0, .int _ x1, .int _ x2, .int _ x3, .int _ x4, .int _ x5] => some ⟨x0, x1, x2, x3, x4, x5⟩ | _ => none, by kernel_rfl, rfl, by decide, by decide⟩
instance : ElT Tryz.prog 102 Req 6 reqE reqH := ⟨.agg #[vi 0, vi 0, vi 0, vi 0, vi 0, vi 0], ⟨0, 0, 0, 0, 0, 0⟩, 48, fun l => match l with | [.int _ x0, .int _ x1, .int _ x2, .int _ x3, .int _ x4, .int _ x5] => some ⟨x0, x1, x2, x3, x4, x5⟩ | _ => none, by kernel_rfl, rfl, by decide, by decide⟩
instance : ElT Tryz.prog 148 Party 10 partyE partyH := ⟨.agg #[vi 0, vi 0, vi 0, vi 0, vi 0, vi 0, vi 0, vi 0, vi 0, vi 0], ⟨0, 0, 0, 0, 0, 0, 0, 0, 0, 0⟩, 80, fun l => match l with | [.int _ x0, .int _ x1, .int _ x2, .int _ x3, .int _ x4, .int _ x5, .int _ x6, .int _ x7, .int _ x8, .int _ x9] => some ⟨x0, x1, x2, x3, x4, x5, x6, x7, x8, x9⟩ | _ => none, by kernel_rfl, rfl, by decide, by decide⟩
instance : ElT Tryz.prog 163 Pin 2 pinE pinH := ⟨.agg #[vi 0, vi 0], ⟨0, 0⟩, 16, fun l => match l with | [.int _ x0, .int _ x1] => some ⟨x0, x1⟩ | _ => none, by kernel_rfl, rfl, by decide, by decide⟩
instance : ElT Tryz.prog 198 Entry 4 entryE entryH := ⟨.agg #[vi 0, vi 0, vi 0, vi 0], ⟨0, 0, 0, 0⟩, 32, fun l => match l with | [.int _ x0, .int _ x1, .int _ x2, .int _ x3] => some ⟨x0, x1, x2, x3⟩ | _ => none, by kernel_rfl, rfl, by decide, by decide⟩
instance : ElT Tryz.prog 238 Entry 4 entryE entryH := ⟨.agg #[vi 0, vi 0, vi 0, vi 0], ⟨0, 0, 0, 0⟩, 32, fun l => match l with | [.int _ x0, .int _ x1, .int _ x2, .int _ x3] => some ⟨x0, x1, x2, x3⟩ | _ => none, by kernel_rfl, rfl, by decide, by decide⟩
instance : ElT Tryz.prog 266 Pin 2 pinE pinH := ⟨.agg #[vi 0, vi 0], ⟨0, 0⟩, 16, fun l => match l with | [.int _ x0, .int _ x1] => some ⟨x0, x1⟩ | _ => none, by kernel_rfl, rfl, by decide, by decide⟩
instance : ElN Tryz.prog 83 (cabinLx 198 172 163) := ⟨.agg #[.int .i64 0, .int .i64 0, .int .i64 0, .int .i64 0, .int .i64 0, .slice none 0 0, .slice none 0 0], 88, by kernel_rfl, by rfl, by decide, by decide⟩
instance : ElN Tryz.prog 141 (cabinLx 238 256 266) := ⟨.agg #[.int .i64 0, .int .i64 0, .int .i64 0, .int .i64 0, .int .i64 0, .slice none 0 0, .slice none 0 0], 88, by kernel_rfl, by rfl, by decide, by decide⟩
instance : ElN Tryz.prog 172 (sl 163 pinL) := ⟨.slice none 0 0, 24, by kernel_rfl, by rfl, by decide, by decide⟩
instance : ElN Tryz.prog 256 (sl 266 pinL) := ⟨.slice none 0 0, 24, by kernel_rfl, by rfl, by decide, by decide⟩
abbrev HC (f : Nat) (S : Prop) : Prop := HasC Tryz.prog f S
abbrev Sp := Spec Tryz.prog
end SX
end Go.Proofs.YtapbooddmdkgjaaGreat
/- Who was passed over; what freed seats link; in plain Lean. It imports no program. -/
namespace Go.Proofs.YtapbooddmdkgjaaGreat
namespace SX
set_option linter.unusedVariables false
set_option linter.unusedSimpArgs false
open Go Go.RowKit
theorem hasCab_in {h : House} {cabin : Int} (hb : hasCab h cabin = true) : 0 ≤ cabin ∧ cabin < (h.cabins.length : Int) := by
  simp only [hasCab, Bool.and_eq_true, inB, decide_eq_true_eq] at hb
  have hp := houseP_of hb.1
  obtain ⟨h1, _, _, _, h5, _⟩ := hp
  have h9 := h1
  simp [rulesOk, inB] at h9
  have h2 := hb.2
  rw [wr_of (by omega) (by omega)] at h2
  omega
def restingB (p : Party) (now : Int) : Bool := p.state == 1 && decide (p.until' > now)
def freeAt (h : House) (cabin : Int) : Int := match h.cabins[cabin.toNat]? with
  | some c => c.seats.free
  | none => 0
def fitsB (h : House) (cabin : Int) (p : Party) : Bool := p.cabin == cabin && p.state == 1 && !restingB p h.now && decide (p.size ≤ freeAt h cabin)
def beforeB (r : Rules) (a b : Party) (now : Int) : Bool := decide (levelOf r a now ≥ 0) && decide (levelOf r b now ≥ 0) && (decide (levelOf r a now < levelOf r b now) || (levelOf r a now == levelOf r b now && decide (a.turn < b.turn)))
def atId (l : List Party) (id : Int) : Int := idxF (fun e : Party => e.id == id) l 0
theorem atId_lt (l : List Party) (id : Int) : atId l id < (l.length : Int) ∧ -1 ≤ atId l id := by
  have h1 := idxF_lt (q := fun e : Party => e.id == id) l 0
  have h2 := (idxF_none (q := fun e : Party => e.id == id) l 0).2
  unfold atId
  omega
def passGo (h : House) (cabin : Int) (q : Party) : List Party → List Int
  | [] => []
  | p :: ps => if fitsB h cabin p && beforeB h.rules p q h.now then p.id :: passGo h cabin q ps else passGo h cabin q ps
noncomputable def passed (h : House) (cabin id : Int) : List Int :=
  if hasCab h cabin && !decide (atId h.parties id < 0) then match h.parties[(atId h.parties id).toNat]? with
    | some q => if q.cabin == cabin then passGo h cabin q h.parties else []
    | none => []
  else []
end SX
end Go.Proofs.YtapbooddmdkgjaaGreat
/- What the functions that change rows, wheels, parties and ledgers come to, in plain Lean: the exact models. It imports no program. -/
namespace Go.Proofs.YtapbooddmdkgjaaGreat
namespace SX
set_option linter.unusedVariables false
set_option linter.unusedSimpArgs false
open Go Go.RowKit
/-- a wheel with a pin put into its spoke -/
def wheelIns (w : Wheel) (p : Pin) : Wheel := ⟨match w.spoke[(Int.tmod p.at' 9).toNat]? with
  | some l => w.spoke.set (Int.tmod p.at' 9).toNat (pIns l p)
  | none => w.spoke⟩
noncomputable def wheelPut (w : Wheel) (p : Pin) : Wheel := if wheelOk w && !decide (p.at' < 1) && wheelOk (wheelIns w p) then wheelIns w p else w
noncomputable def wheelPutB (w : Wheel) (p : Pin) : Bool := wheelOk w && !decide (p.at' < 1) && wheelOk (wheelIns w p)
theorem wheelIns_of {w : Wheel} {p : Pin} {l : List Pin} (h : w.spoke[(Int.tmod p.at' 9).toNat]? = some l) : wheelIns w p = ⟨w.spoke.set (Int.tmod p.at' 9).toNat (pIns l p)⟩ := by simp [wheelIns, h]
theorem flat_set_len {xss : List (List Pin)} {k : Nat} {x : List Pin} (y : List Pin) (h : xss[k]? = some x) : (xss.set k y).flatten.length + x.length = xss.flatten.length + y.length := by
  induction xss generalizing k with
  | nil => simp at h
  | cons z xss ih =>
    cases k with
    | zero => simp at h; subst h; simp; omega
    | succ k =>
      simp only [List.getElem?_cons_succ] at h
      have := ih h
      simp only [List.set_cons_succ, List.flatten_cons, List.length_append]
      omega
theorem flat_set_le : ∀ (xss : List (List Pin)) (k : Nat) (y : List Pin), (xss.set k y).flatten.length ≤ xss.flatten.length + y.length
  | [], k, y => by simp
  | z :: xss, 0, y => by simp only [List.set_cons_zero, List.flatten_cons, List.length_append]; omega
  | z :: xss, k + 1, y => by
    have := flat_set_le xss k y
    simp only [List.set_cons_succ, List.flatten_cons, List.length_append]; omega
theorem wheelIns_len (w : Wheel) (p : Pin) : (wheelIns w p).spoke.length = w.spoke.length ∧ (wheelIns w p).spoke.flatten.length ≤ w.spoke.flatten.length + 1 := by
  unfold wheelIns
  split
  · rename_i l hl
    have := flat_set_len (pIns l p) hl
    rw [pIns_len] at this
    dsimp only
    rw [List.length_set]
    omega
  · simp
theorem wheelPut_len (w : Wheel) (p : Pin) : (wheelPut w p).spoke.length = w.spoke.length ∧ (wheelPut w p).spoke.flatten.length ≤ w.spoke.flatten.length + 1 := by
  unfold wheelPut
  split
  · exact wheelIns_len w p
  · omega
theorem wheelPut_len2 (s : List (List Pin)) (p : Pin) : (wheelPut ⟨s⟩ p).spoke.length = s.length ∧ (wheelPut ⟨s⟩ p).spoke.flatten.length ≤ s.flatten.length + 1 := wheelPut_len ⟨s⟩ p
theorem wheelPut_t {w : Wheel} {p : Pin} (h1 : wheelOk w = true) (h2 : ¬ p.at' < 1) (h3 : wheelOk (wheelIns w p) = true) : wheelPut w p = wheelIns w p ∧ wheelPutB w p = true := by simp [wheelPut, wheelPutB, h1, h2, h3]
theorem wheelPut_f {w : Wheel} {p : Pin} (h : wheelOk w = false ∨ p.at' < 1 ∨ wheelOk (wheelIns w p) = false) : wheelPut w p = w ∧ wheelPutB w p = false := by
  rcases h with h | h | h <;> simp [wheelPut, wheelPutB, h]
/-- a row with an entry put into it -/
noncomputable def queuePutB (l : List Entry) (e : Entry) : Bool := queueOk l && queueOk (qIns l e)
noncomputable def queuePut (l : List Entry) (e : Entry) : List Entry := if queuePutB l e then qIns l e else l
theorem queuePut_t {l : List Entry} {e : Entry} (h1 : queueOk l = true) (h2 : queueOk (qIns l e) = true) : queuePut l e = qIns l e ∧ queuePutB l e = true := by simp [queuePut, queuePutB, h1, h2]
theorem queuePut_f {l : List Entry} {e : Entry} (h : queueOk l = false ∨ queueOk (qIns l e) = false) : queuePut l e = l ∧ queuePutB l e = false := by
  rcases h with h | h <;> simp [queuePut, queuePutB, h]
/-- parties with one put among them -/
def idLess (a b : Party) : Bool := decide (a.id < b.id)
def partyPut (l : List Party) (p : Party) : List Party := if atId l p.id ≥ 0 then l.set (atId l p.id).toNat p else insL idLess l p
theorem partyPut_len (l : List Party) (p : Party) : (partyPut l p).length ≤ l.length + 1 := by
  unfold partyPut
  split
  · simp
  · rw [insL_len]; omega
theorem partyPut_set {l : List Party} {p : Party} (h : atId l p.id ≥ 0) : partyPut l p = l.set (atId l p.id).toNat p := by simp [partyPut, h]
theorem partyPut_ins {l : List Party} {p : Party} (h : ¬ atId l p.id ≥ 0) : partyPut l p = insL idLess l p := by simp only [partyPut, if_neg h]
theorem queueOf_len (r : Rules) (cabin now : Int) : ∀ l : List Party, (queueOf r l cabin now).length ≤ l.length
  | [] => by simp [queueOf]
  | p :: ps => by
    have := queueOf_len r cabin now ps
    unfold queueOf
    split
    · rw [qIns_len]; simp only [List.length_cons]; omega
    · simp only [List.length_cons]; omega
theorem pinsGo_len (cabin : Int) : ∀ (l : List Party) (out : List Pin), (pinsGo l cabin out).length ≤ out.length + l.length
  | [], out => by simp [pinsGo]
  | p :: ps, out => by
    unfold pinsGo
    have := pinsGo_len cabin ps (if p.state == 2 && p.cabin == cabin then pIns out ⟨p.until', p.id⟩ else out)
    split at this
    · rename_i h; rw [if_pos h]; rw [pIns_len] at this; simp only [List.length_cons]; omega
    · rename_i h; rw [if_neg h]; simp only [List.length_cons]; omega
theorem pinsGo_len0 (cabin : Int) (l : List Party) : (pinsGo l cabin []).length ≤ l.length := by
  have := pinsGo_len cabin l []; simpa using this
theorem rulesOk_len {r : Rules} (h : rulesOk r = true) : 1 ≤ r.seats.length ∧ r.seats.length ≤ 4 ∧ r.crew ≤ 3 ∧ 1 ≤ r.crew := by
  simp [rulesOk, inB] at h; omega
theorem mem_set_of {α : Type} {P : α → Prop} {l : List α} {k : Nat} {x : α} (h : ∀ c ∈ l, P c) (hx : P x) : ∀ c ∈ l.set k x, P c :=
  fun c hc => (List.mem_or_eq_of_mem_set hc).elim (h c) (fun e => e ▸ hx)
end SX
end Go.Proofs.YtapbooddmdkgjaaGreat
/- What the functions on snapshots come to, in plain Lean, and how long a snapshot is. It imports no program. -/
namespace Go.Proofs.YtapbooddmdkgjaaGreat
namespace SX
set_option linter.unusedVariables false
set_option linter.unusedSimpArgs false
open Go Go.RowKit
theorem nodup_le {α : Type} [DecidableEq α] : ∀ {l m : List α}, l.Nodup → (∀ x ∈ l, x ∈ m) → l.length ≤ m.length
  | [], m, _, _ => Nat.zero_le _
  | x :: l, m, hd, hs => by
    have hd' := List.nodup_cons.1 hd
    have h1 := List.perm_cons_erase (hs x (by simp))
    have h2 := nodup_le (l := l) (m := m.erase x) hd'.2 fun y hy => (List.mem_erase_of_ne (by intro he; subst he; exact hd'.1 hy)).2 (hs y (by simp [hy]))
    rw [h1.length_eq, List.length_cons, List.length_cons]; omega
theorem todo_le {h : House} (hh : HouseP h) : h.todo.length ≤ h.cabins.length := by
  obtain ⟨hr, _, _, _, hc, _, hj, _⟩ := hh
  have hrl := rulesOk_len hr
  have h1 := hj.1
  have hw : wr ((h.cabins.length : Int) - 1) = (h.cabins.length : Int) - 1 := wr_of (by omega) (by omega)
  have hnd : (h.todo.map Int.toNat).Nodup := by
    rw [List.Nodup, List.pairwise_map, List.pairwise_iff_getElem]
    intro i j hi hj hij he
    have h2 := h1 j _ (List.getElem?_eq_getElem hj)
    have h3 := h1 i _ (List.getElem?_eq_getElem hi)
    have h4 := h2.2 i _ hij (List.getElem?_eq_getElem hi)
    have h5 := h2.1; have h6 := h3.1
    simp only [inB, Bool.and_eq_true, decide_eq_true_eq] at h5 h6
    omega
  have hsub : h.todo.map Int.toNat ⊆ List.range h.cabins.length := by
    intro x hx
    obtain ⟨y, hy, rfl⟩ := List.mem_map.1 hx
    obtain ⟨i, hi⟩ := List.mem_iff_getElem?.1 hy
    have h5 := (h1 i y hi).1
    rw [hw] at h5
    simp only [inB, Bool.and_eq_true, decide_eq_true_eq] at h5
    rw [List.mem_range]; omega
  have := nodup_le hnd hsub
  simpa using this
/-! ### How long -/
def cnt (l : List Party) (k : Int) : Nat := (l.filter fun p => p.cabin == k).length
theorem countGo_cnt (k : Int) : ∀ (l : List Party) (n : Int), 0 ≤ n → n + l.length ≤ 9223372036854775807 → countGo l k n = n + (cnt l k : Nat)
  | [], n, _, _ => by simp [countGo, cnt]
  | p :: ps, n, h0, h1 => by
    simp only [List.length_cons] at h1
    unfold countGo cnt
    rw [List.filter_cons]
    split
    · rw [countGo_cnt k ps _ (by rw [wr_of (by omega) (by omega)]; omega) (by rw [wr_of (by omega) (by omega)]; omega), wr_of (by omega) (by omega)]
      simp only [List.length_cons, cnt]; omega
    · rw [countGo_cnt k ps _ h0 (by omega)]; rfl
theorem cnt_all (m : Nat) : ∀ (s : Nat) (l : List Party), (∀ p ∈ l, 0 ≤ p.cabin ∧ p.cabin < (s : Int)) → (∀ k : Nat, k < s → cnt l k ≤ m) → l.length ≤ m * s
  | 0, l, h, _ => by
    cases l with
    | nil => simp
    | cons p l => have := h p (by simp); omega
  | s + 1, l, h, hk => by
    have h1 := hk s (by omega)
    have h2 := cnt_all m s (l.filter fun p => !(p.cabin == (s : Int))) (fun p hp => by
      have h3 := List.mem_filter.1 hp
      have h4 := h p h3.1
      have h5 := h3.2
      simp at h5
      omega) (fun k hks => by
      refine Nat.le_trans ?_ (hk k (by omega))
      unfold cnt
      exact (List.Sublist.filter _ List.filter_sublist).length_le)
    have h6 : ∀ q : List Party, q.length = (q.filter fun p => p.cabin == (s : Int)).length + (q.filter fun p => !(p.cabin == (s : Int))).length := by
      intro q
      induction q with
      | nil => rfl
      | cons a q ih =>
        rw [List.filter_cons, List.filter_cons]
        cases ha : (a.cabin == (s : Int)) with
        | true => simp only [if_true, Bool.not_true, Bool.false_eq_true, if_false, List.length_cons]; omega
        | false => simp only [Bool.not_false, if_true, Bool.false_eq_true, if_false, List.length_cons]; omega
    have h7 := h6 l
    unfold cnt at h1
    rw [Nat.mul_add, Nat.mul_one]
    omega
end SX
end Go.Proofs.YtapbooddmdkgjaaGreat
/- Whom the next offer goes to, and that nobody is passed over then; in plain Lean. It imports no program. -/
namespace Go.Proofs.YtapbooddmdkgjaaGreat
namespace SX
set_option linter.unusedVariables false
set_option linter.unusedSimpArgs false
open Go Go.RowKit
theorem insL_memR {α : Type} {lt : α → α → Bool} {e x : α} : ∀ {l : List α}, x = e ∨ x ∈ l → x ∈ insL lt l e
  | [], h => by simpa [insL] using h
  | y :: l, h => by
    unfold insL
    split
    · rcases h with h | h
      · exact List.mem_cons_of_mem _ (insL_memR (.inl h))
      · rcases List.mem_cons.1 h with rfl | h
        · simp
        · exact List.mem_cons_of_mem _ (insL_memR (.inr h))
    · rcases h with rfl | h <;> simp [*]
theorem queueOf_in {r : Rules} {cabin now : Int} {p : Party} : ∀ {list : List Party}, p ∈ list → entryOk r p now = true → p.cabin = cabin → entryOf r p now ∈ queueOf r list cabin now
  | [], h, _, _ => absurd h List.not_mem_nil
  | q :: ps, h, ho, hc => by
    unfold queueOf
    rcases List.mem_cons.1 h with rfl | h
    · simp only [ho, hc, beq_self_eq_true, Bool.and_self, if_true, qIns_eq]
      exact insL_memR (.inl rfl)
    · split
      · rw [qIns_eq]; exact insL_memR (.inr (queueOf_in h ho hc))
      · exact queueOf_in h ho hc
theorem insL_memL {α : Type} {lt : α → α → Bool} {e x : α} : ∀ {l : List α}, x ∈ insL lt l e → x = e ∨ x ∈ l
  | [], h => by simpa [insL] using h
  | y :: l, h => by
    unfold insL at h
    split at h
    · rcases List.mem_cons.1 h with rfl | h
      · simp
      · rcases insL_memL h with h | h <;> simp [h]
    · rcases List.mem_cons.1 h with rfl | h
      · simp
      · exact .inr h
theorem queueOf_out {r : Rules} {cabin now : Int} {e : Entry} : ∀ {list : List Party}, e ∈ queueOf r list cabin now → ∃ p ∈ list, entryOk r p now = true ∧ p.cabin = cabin ∧ e = entryOf r p now
  | [], h => by simp [queueOf] at h
  | p :: ps, h => by
    unfold queueOf at h
    split at h
    · rename_i hc
      simp only [Bool.and_eq_true, beq_iff_eq] at hc
      rw [qIns_eq] at h
      rcases insL_memL h with rfl | h
      · exact ⟨p, by simp, hc.1, hc.2, rfl⟩
      · obtain ⟨q, hq, h2⟩ := queueOf_out h
        exact ⟨q, by simp [hq], h2⟩
    · obtain ⟨q, hq, h2⟩ := queueOf_out h
      exact ⟨q, by simp [hq], h2⟩
theorem idxF_at {α : Type} {q : α → Bool} : ∀ (l : List α) (n : Nat), 0 ≤ idxF q l n → ∃ (i : Nat) (e : α), idxF q l n = ((n + i : Nat) : Int) ∧ l[i]? = some e ∧ q e = true ∧ ∀ (j : Nat) (y : α), j < i → l[j]? = some y → q y = false
  | [], n, h => by simp [idxF] at h
  | e :: es, n, h => by
    unfold idxF at h ⊢
    cases hq : q e with
    | true => exact ⟨0, e, by simp, rfl, hq, fun j y hj => absurd hj (Nat.not_lt_zero _)⟩
    | false =>
      simp only [hq, Bool.false_eq_true, if_false] at h ⊢
      obtain ⟨i, x, h1, h2, h3, h4⟩ := idxF_at es (n + 1) h
      refine ⟨i + 1, x, by rw [h1]; omega, by simpa using h2, h3, fun j y hj hy => ?_⟩
      cases j with
      | zero => simp at hy; subst hy; exact hq
      | succ j => exact h4 j y (by omega) (by simpa using hy)
theorem ids_lt {h : House} (hp : PartiesP h) : ∀ (d i : Nat) (x y : Party), h.parties[i]? = some x → h.parties[i + d + 1]? = some y → x.id < y.id
  | 0, i, x, y, hx, hy => (hp (i + 0 + 1) y hy).2.2.1 (by omega) x (by simpa using hx)
  | d + 1, i, x, y, hx, hy => by
    have hl : i + d + 1 < h.parties.length := by have := (List.getElem?_eq_some_iff.1 hy).1; omega
    have hz : h.parties[i + d + 1]? = some h.parties[i + d + 1] := List.getElem?_eq_getElem hl
    have h1 := ids_lt hp d i x _ hx hz
    have h2 := (hp (i + (d + 1) + 1) y hy).2.2.1 (by omega) h.parties[i + d + 1] (by rw [show i + (d + 1) + 1 - 1 = i + d + 1 by omega]; exact hz)
    omega
def skipGo (now : Int) : List Party → List Int
  | [] => []
  | p :: ps => if restingB p now then p.id :: skipGo now ps else skipGo now ps
/-- an entry that fits and is not to be skipped -/
def fitE (free : Int) (skip : List Int) (e : Entry) : Bool := decide (e.size ≤ free) && !(skip.any fun y => y == e.id)
def firstFit (row : List Entry) (free : Int) (skip : List Int) : Int := idxF (fitE free skip) row 0
theorem firstFit_lt (row : List Entry) (free : Int) (skip : List Int) : firstFit row free skip < (row.length : Int) ∧ -1 ≤ firstFit row free skip := by
  have h1 := idxF_lt (q := fitE free skip) row 0
  have h2 := (idxF_none (q := fitE free skip) row 0).2
  unfold firstFit
  omega
noncomputable def nextOffer (h : House) (cabin : Int) : Int :=
  if hasCab h cabin then match h.cabins[cabin.toNat]? with
    | some c => if firstFit c.row c.seats.free (skipGo h.now h.parties) < 0 then 0 else match c.row[(firstFit c.row c.seats.free (skipGo h.now h.parties)).toNat]? with
      | some e => e.id
      | none => 0
    | none => 0
  else 0
theorem nextOffer_no {h : House} {cabin : Int} (hb : hasCab h cabin = false) : nextOffer h cabin = 0 := by simp [nextOffer, hb]
theorem nextOffer_neg {h : House} {cabin : Int} {c : Cabin} (hb : hasCab h cabin = true) (hc : h.cabins[cabin.toNat]? = some c) (hk : firstFit c.row c.seats.free (skipGo h.now h.parties) < 0) : nextOffer h cabin = 0 := by
  simp [nextOffer, hb, hc, hk]
theorem nextOffer_at {h : House} {cabin : Int} {c : Cabin} {e : Entry} (hb : hasCab h cabin = true) (hc : h.cabins[cabin.toNat]? = some c) (hk : ¬ firstFit c.row c.seats.free (skipGo h.now h.parties) < 0)
    (he : c.row[(firstFit c.row c.seats.free (skipGo h.now h.parties)).toNat]? = some e) : nextOffer h cabin = e.id := by
  simp [nextOffer, hb, hc, hk, he]
theorem atId_at {l : List Party} {id : Int} (h : ¬ atId l id < 0) : ∃ p, l[(atId l id).toNat]? = some p ∧ p.id = id := by
  obtain ⟨i, e, h1, h2, h3, _⟩ := idxF_at (q := fun e : Party => e.id == id) l 0 (by unfold atId at h; omega)
  refine ⟨e, ?_, by simpa using h3⟩
  unfold atId
  rw [h1]; simpa using h2
theorem agrees_row {h : House} {k : Nat} {c : Cabin} (hh : HouseP h) (hc : h.cabins[k]? = some c) : QueueP c.row ∧ c.row = queueOf h.rules h.parties k h.now := by
  obtain ⟨_, _, _, _, _, _, _, h8⟩ := hh
  have ha := (h8 k c hc).2.1
  simp only [agrees, Bool.and_eq_true, cabinOk] at ha
  obtain ⟨⟨⟨⟨⟨⟨_, hq⟩, _⟩, hr⟩, _⟩, _⟩, _⟩ := ha
  exact ⟨queueP_of hq, (sameRow_iff _ _).1 hr⟩
theorem hasCab_P {h : House} {cabin : Int} (hb : hasCab h cabin = true) : HouseP h := by
  simp only [hasCab, Bool.and_eq_true] at hb; exact houseP_of hb.1
end SX
end Go.Proofs.YtapbooddmdkgjaaGreat
