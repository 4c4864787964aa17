import Derived.Test.YtojlmojebnlmdaaGreatDoorMod
import Derived.Test.YtojlmojebnlmdaaGreatDoorProg
set_option linter.unusedVariables false
set_option linter.unusedSimpArgs false
noncomputable section
namespace PX
open Go
open Md
namespace Te
def tyL : List (Nat × TI) := [(3, ⟨[.int .i64], false, 8, [], 0⟩),
 (4, ⟨[.bool], false, 1, [], 0⟩),
 (5, ⟨[.int .u8], false, 1, [], 0⟩),
 (9, ⟨[.str], false, 16, [], 0⟩),
 (21, ⟨[.int .i32], false, 4, [], 0⟩),
 (22, ⟨[.sl [.str, .int .i64, .bool]], false, 24, [], 60⟩),
 (23, ⟨[.sl [.str, .str, .int .i64, .bool, .int .i64, .int .i64, .str, .int .i64, .sl [.str, .str]]], false, 24, [], 34⟩),
 (24, ⟨[.sl [.int .i64, .int .i64, .str, .str, .int .i64, .bool, .int .i64, .int .i64, .str, .int .i64, .sl [.str, .str]]], false, 24, [], 122⟩),
 (25, ⟨[.sl [.int .i64]], false, 24, [], 3⟩),
 (27, ⟨[.sl [.int .i64], .int .i64], true, 32, [(0, 25), (1, 3)], 0⟩),
 (29, ⟨[.int .i64, .sl [.int .i64, .int .i64, .str, .str, .int .i64, .bool, .int .i64, .int .i64, .str, .int .i64, .sl [.str, .str]], .sl [.int .i64], .int .i64], true, 64, [(0, 3), (1, 24), (2, 27)], 0⟩),
 (31, ⟨[.sl [.int .i64]], true, 24, [(0, 25)], 0⟩),
 (32, ⟨[.sl [.str, .str]], false, 24, [], 130⟩),
 (34, ⟨[.str, .str, .int .i64, .bool, .int .i64, .int .i64, .str, .int .i64, .sl [.str, .str]], true, 112, [(0, 9), (1, 9), (2, 3), (3, 4), (4, 3), (5, 3), (6, 9), (7, 3), (8, 32)], 0⟩),
 (36, ⟨[.bool, .int .i64, .str, .str, .int .i64, .bool, .int .i64, .int .i64, .str, .int .i64, .sl [.str, .str]], true, 128, [(0, 4), (1, 3), (2, 34)], 0⟩),
 (38, ⟨[.str, .str, .bool, .int .i64, .int .i64, .int .i64, .int .i64, .sl [.str, .int .i64, .bool], .sl [.str, .str, .int .i64, .bool, .int .i64, .int .i64, .str, .int .i64, .sl [.str, .str]], .int .i64, .sl [.int .i64, .int .i64, .str, .str, .int .i64, .bool, .int .i64, .int .i64, .str, .int .i64, .sl [.str, .str]], .sl [.int .i64], .int .i64, .sl [.int .i64], .bool, .int .i64, .str, .str, .int .i64, .bool, .int .i64, .int .i64, .str, .int .i64, .sl [.str, .str]], true, 336, [(0, 9), (1, 9), (2, 4), (3, 3), (4, 3), (5, 3), (6, 3), (7, 22), (8, 23), (9, 29), (13, 31), (14, 36)], 0⟩),
 (39, ⟨[.int .i64], false, 8, [], 0⟩),
 (47, ⟨[.sl [.str]], false, 24, [], 9⟩),
 (49, ⟨[.int .i64, .int .i64, .bool, .str, .str, .int .i64, .bool, .int .i64, .int .i64, .str, .int .i64, .sl [.str, .str], .str, .str, .bool, .int .i64, .int .i64, .int .i64, .bool, .int .i64, .str, .str, .int .i64, .bool, .int .i64, .int .i64, .str, .int .i64, .sl [.str, .str], .bool, .int .i64, .sl [.str, .int .i64, .bool], .sl [.str], .sl [.int .i64]], true, 416, [(0, 3), (1, 3), (2, 4), (3, 34), (12, 9), (13, 9), (14, 4), (15, 3), (16, 3), (17, 3), (18, 36), (29, 4), (30, 3), (31, 22), (32, 47), (33, 25)], 0⟩),
 (51, ⟨[.sl [.int .i64, .int .i64, .bool, .str, .str, .int .i64, .bool, .int .i64, .int .i64, .str, .int .i64, .sl [.str, .str], .str, .str, .bool, .int .i64, .int .i64, .int .i64, .bool, .int .i64, .str, .str, .int .i64, .bool, .int .i64, .int .i64, .str, .int .i64, .sl [.str, .str], .bool, .int .i64, .sl [.str, .int .i64, .bool], .sl [.str], .sl [.int .i64]]], false, 24, [], 49⟩),
 (60, ⟨[.str, .int .i64, .bool], true, 32, [(0, 9), (1, 3), (2, 4)], 0⟩),
 (74, ⟨[.sl [.int .i64, .int .i64, .int .i64, .int .i64, .int .u8]], false, 24, [], 76⟩),
 (76, ⟨[.int .i64, .int .i64, .int .i64, .int .i64, .int .u8], true, 40, [(0, 3), (1, 3), (2, 3), (3, 3), (4, 5)], 0⟩),
 (77, ⟨[.int .u64], false, 8, [], 0⟩),
 (103, ⟨[.fn], false, 8, [], 0⟩),
 (122, ⟨[.int .i64, .int .i64, .str, .str, .int .i64, .bool, .int .i64, .int .i64, .str, .int .i64, .sl [.str, .str]], true, 128, [(0, 3), (1, 3), (2, 34)], 0⟩),
 (130, ⟨[.str, .str], true, 32, [(0, 9), (1, 9)], 0⟩),
 (147, ⟨[.fn], false, 8, [], 0⟩),
 (157, ⟨[.fn], false, 8, [], 0⟩)]
def fnL : List (Nat × Func) := [(138, Go.Proofs.Tryz.f138), (80, Go.Proofs.Tryz.f80), (81, Go.Proofs.Tryz.f81), (31, Go.Proofs.Tryz.f31), (163, Go.Proofs.Tryz.f163), (179, Go.Proofs.Tryz.f179), (159, Go.Proofs.Tryz.f159), (193, Go.Proofs.Tryz.f193), (189, Go.Proofs.Tryz.f189), (180, Go.Proofs.Tryz.f180), (160, Go.Proofs.Tryz.f160), (139, Go.Proofs.Tryz.f139), (161, Go.Proofs.Tryz.f161), (199, Go.Proofs.Tryz.f199), (198, Go.Proofs.Tryz.f198), (190, Go.Proofs.Tryz.f190), (181, Go.Proofs.Tryz.f181), (162, Go.Proofs.Tryz.f162), (126, Go.Proofs.Tryz.f126), (127, Go.Proofs.Tryz.f127), (124, Go.Proofs.Tryz.f124), (125, Go.Proofs.Tryz.f125), (66, Go.Proofs.Tryz.f66), (164, Go.Proofs.Tryz.f164), (130, Go.Proofs.Tryz.f130), (129, Go.Proofs.Tryz.f129), (128, Go.Proofs.Tryz.f128), (67, Go.Proofs.Tryz.f67), (103, Go.Proofs.Tryz.f103), (104, Go.Proofs.Tryz.f104), (50, Go.Proofs.Tryz.f50), (68, Go.Proofs.Tryz.f68), (26, Go.Proofs.Tryz.f26), (51, Go.Proofs.Tryz.f51), (106, Go.Proofs.Tryz.f106), (105, Go.Proofs.Tryz.f105), (52, Go.Proofs.Tryz.f52), (15, Go.Proofs.Tryz.f15), (113, Go.Proofs.Tryz.f113), (156, Go.Proofs.Tryz.f156), (169, Go.Proofs.Tryz.f169), (170, Go.Proofs.Tryz.f170), (184, Go.Proofs.Tryz.f184), (171, Go.Proofs.Tryz.f171), (141, Go.Proofs.Tryz.f141), (177, Go.Proofs.Tryz.f177), (191, Go.Proofs.Tryz.f191), (185, Go.Proofs.Tryz.f185), (186, Go.Proofs.Tryz.f186), (175, Go.Proofs.Tryz.f175), (178, Go.Proofs.Tryz.f178), (157, Go.Proofs.Tryz.f157), (153, Go.Proofs.Tryz.f153), (110, Go.Proofs.Tryz.f110), (147, Go.Proofs.Tryz.f147), (114, Go.Proofs.Tryz.f114), (61, Go.Proofs.Tryz.f61), (34, Go.Proofs.Tryz.f34), (152, Go.Proofs.Tryz.f152), (151, Go.Proofs.Tryz.f151), (109, Go.Proofs.Tryz.f109), (176, Go.Proofs.Tryz.f176), (154, Go.Proofs.Tryz.f154), (155, Go.Proofs.Tryz.f155), (111, Go.Proofs.Tryz.f111), (112, Go.Proofs.Tryz.f112), (60, Go.Proofs.Tryz.f60), (19, Go.Proofs.Tryz.f19), (65, Go.Proofs.Tryz.f65), (123, Go.Proofs.Tryz.f123), (64, Go.Proofs.Tryz.f64), (23, Go.Proofs.Tryz.f23), (91, Go.Proofs.Tryz.f91), (36, Go.Proofs.Tryz.f36), (24, Go.Proofs.Tryz.f24), (14, Go.Proofs.Tryz.f14), (93, Go.Proofs.Tryz.f93), (39, Go.Proofs.Tryz.f39), (140, Go.Proofs.Tryz.f140), (83, Go.Proofs.Tryz.f83), (84, Go.Proofs.Tryz.f84), (142, Go.Proofs.Tryz.f142), (172, Go.Proofs.Tryz.f172), (143, Go.Proofs.Tryz.f143), (85, Go.Proofs.Tryz.f85), (86, Go.Proofs.Tryz.f86), (144, Go.Proofs.Tryz.f144), (87, Go.Proofs.Tryz.f87), (33, Go.Proofs.Tryz.f33), (11, Go.Proofs.Tryz.f11), (100, Go.Proofs.Tryz.f100), (101, Go.Proofs.Tryz.f101), (48, Go.Proofs.Tryz.f48), (99, Go.Proofs.Tryz.f99), (150, Go.Proofs.Tryz.f150), (98, Go.Proofs.Tryz.f98), (47, Go.Proofs.Tryz.f47), (102, Go.Proofs.Tryz.f102), (49, Go.Proofs.Tryz.f49), (13, Go.Proofs.Tryz.f13), (148, Go.Proofs.Tryz.f148), (53, Go.Proofs.Tryz.f53), (158, Go.Proofs.Tryz.f158), (118, Go.Proofs.Tryz.f118), (88, Go.Proofs.Tryz.f88), (89, Go.Proofs.Tryz.f89), (173, Go.Proofs.Tryz.f173), (174, Go.Proofs.Tryz.f174), (145, Go.Proofs.Tryz.f145), (146, Go.Proofs.Tryz.f146), (90, Go.Proofs.Tryz.f90), (35, Go.Proofs.Tryz.f35), (82, Go.Proofs.Tryz.f82), (32, Go.Proofs.Tryz.f32)]
def tmL : List (Nat × (List Sh × List (TypeId × List Sh))) := [(138, ([.row 0 aG.ks 130 32], [])),
 (80, ([.agg [.str, .str, .int .i64, .bool, .int .i64, .int .i64, .str, .int .i64, .row 0 aG.ks 130 32]], [])),
 (81, ([.agg [.int .i64, .row 0 aD.ks 122 128, .row 1 [.int .i64] 3 8, .int .i64]], [])),
 (31, ([.agg [.str, .str, .bool, .int .i64, .int .i64, .int .i64, .int .i64, .row 0 aF.ks 60 32, .row 1 aA.ks 34 112, .int .i64, .row 2 aD.ks 122 128, .row 3 [.int .i64] 3 8, .int .i64, .row 4 [.int .i64] 3 8, .bool, .int .i64, .str, .str, .int .i64, .bool, .int .i64, .int .i64, .str, .int .i64, .row 5 aG.ks 130 32]], [])),
 (163, ([.bool], [])),
 (179, ([.str, .bool], [])),
 (159, ([.str, .bool], [])),
 (193, ([.int .i64], [])),
 (189, ([.int .i64], [])),
 (180, ([.str, .str, .bool], [])),
 (160, ([.str, .str, .bool], [])),
 (139, ([.bool], [])),
 (161, ([.bool], [])),
 (199, ([.int .i64], [])),
 (198, ([.int .i64], [])),
 (190, ([.sl [.str]], [])),
 (181, ([.sl [.str]], [])),
 (162, ([.sl [.str]], [])),
 (126, ([.bool], [])),
 (127, ([.bool], [])),
 (124, ([.str, .str, .bool], [])),
 (125, ([.bool], [(60, aF.shs)])),
 (66, ([.int .i64], [])),
 (164, ([.int .i64], [])),
 (130, ([.int .i64], [])),
 (129, ([.int .i64], [])),
 (128, ([.int .i64, .bool], [])),
 (67, ([.int .i64, .bool], [])),
 (103, ([.row 0 aF.ks 60 32], [])),
 (104, ([.row 0 [.int .i64] 3 8], [])),
 (50, ([.agg [.str, .str, .bool, .int .i64, .int .i64, .int .i64, .int .i64, .row 0 aF.ks 60 32, .row 1 aA.ks 34 112, .int .i64, .row 2 aD.ks 122 128, .row 3 [.int .i64] 3 8, .int .i64, .row 4 [.int .i64] 3 8, .bool, .int .i64, .str, .str, .int .i64, .bool, .int .i64, .int .i64, .str, .int .i64, .row 5 aG.ks 130 32]], [])),
 (68, ([.row 0 aF.ks 60 32], [])),
 (26, ([.agg [.str, .str, .bool, .int .i64, .int .i64, .int .i64, .int .i64, .row 0 aF.ks 60 32, .row 1 aA.ks 34 112, .int .i64, .row 2 aD.ks 122 128, .row 3 [.int .i64] 3 8, .int .i64, .row 4 [.int .i64] 3 8, .bool, .int .i64, .str, .str, .int .i64, .bool, .int .i64, .int .i64, .str, .int .i64, .row 5 aG.ks 130 32], .bool, .int .i64], [])),
 (51, ([aB.sh], [])),
 (106, ([.agg [.str, .str, .int .i64, .bool, .int .i64, .int .i64, .str, .int .i64, .row 0 aG.ks 130 32]], [])),
 (105, ([.row 0 aA.ks 34 112], [])),
 (52, ([.row 0 aA.ks 34 112, .row 1 aA.ks 34 112, .bool], [])),
 (15, ([aB.sh, .bool], [])),
 (113, ([.bool], [])),
 (156, ([.int .i64], [])),
 (169, ([.bool], [])),
 (170, ([.bool], [])),
 (184, ([.bool], [])),
 (171, ([.int .i64], [])),
 (141, ([.int .i64], [])),
 (177, ([.int .i64], [])),
 (191, ([.bool], [])),
 (185, ([.bool], [])),
 (186, ([.bool], [])),
 (175, ([.int .i64, .bool], [])),
 (178, ([.row 0 [.int .i64] 3 8], [])),
 (157, ([.int .i64, .agg [.row 0 [.int .i64] 3 8, .int .i64], .int .i64], [])),
 (153, ([.agg [.str, .str, .int .i64, .bool, .int .i64, .int .i64, .str, .int .i64, .row 0 aG.ks 130 32]], [])),
 (110, ([.agg [.int .i64, .row 0 aD.ks 122 128, .row 1 [.int .i64] 3 8, .int .i64]], [])),
 (147, ([.agg [.int .i64, .int .i64, .bool, .str, .str, .int .i64, .bool, .int .i64, .int .i64, .str, .int .i64, .row 0 aG.ks 130 32, .str, .str, .bool, .int .i64, .int .i64, .int .i64, .bool, .int .i64, .str, .str, .int .i64, .bool, .int .i64, .int .i64, .str, .int .i64, .row 1 aG.ks 130 32, .bool, .int .i64, .row 2 aF.ks 60 32, .row 3 [.str] 9 16, .row 4 [.int .i64] 3 8]], [])),
 (114, ([.agg [.int .i64, .row 0 aD.ks 122 128, .row 1 [.int .i64] 3 8, .int .i64], .agg [.int .i64, .int .i64, .bool, .str, .str, .int .i64, .bool, .int .i64, .int .i64, .str, .int .i64, .row 2 aG.ks 130 32, .str, .str, .bool, .int .i64, .int .i64, .int .i64, .bool, .int .i64, .str, .str, .int .i64, .bool, .int .i64, .int .i64, .str, .int .i64, .row 3 aG.ks 130 32, .bool, .int .i64, .row 4 aF.ks 60 32, .row 5 [.str] 9 16, .row 6 [.int .i64] 3 8], .int .i64], [])),
 (61, ([aB.sh, .row 0 aC.ks 49 416], [])),
 (34, ([aB.sh, .row 0 aC.ks 49 416], [])),
 (152, ([.bool], [(3, [.int .i64])])),
 (151, ([.int .i64], [(3, [.int .i64])])),
 (109, ([.int .i64], [])),
 (176, ([.row 0 [.int .i64] 3 8], [])),
 (154, ([.agg [.row 0 [.int .i64] 3 8, .int .i64], .bool], [])),
 (155, ([.row 0 aD.ks 122 128], [])),
 (111, ([.agg [.int .i64, .row 0 aD.ks 122 128, .row 1 [.int .i64] 3 8, .int .i64]], [])),
 (112, ([.agg [.int .i64, .int .i64, .bool, .str, .str, .int .i64, .bool, .int .i64, .int .i64, .str, .int .i64, .row 0 aG.ks 130 32, .str, .str, .bool, .int .i64, .int .i64, .int .i64, .bool, .int .i64, .str, .str, .int .i64, .bool, .int .i64, .int .i64, .str, .int .i64, .row 1 aG.ks 130 32, .bool, .int .i64, .row 2 aF.ks 60 32, .row 3 [.str] 9 16, .row 4 [.int .i64] 3 8]], [])),
 (60, ([.agg [.int .i64, .row 0 aD.ks 122 128, .row 1 [.int .i64] 3 8, .int .i64], .row 2 aC.ks 49 416, .int .i64], [])),
 (19, ([aB.sh, .row 0 aC.ks 49 416, .int .i64], [])),
 (65, ([.bool], [])),
 (123, ([.int .i64], [])),
 (64, ([.row 0 aA.ks 34 112], [])),
 (23, ([aB.sh], [])),
 (91, ([.row 0 aC.ks 49 416], [])),
 (36, ([aB.sh, .row 0 aC.ks 49 416], [])),
 (24, ([.bool], [])),
 (14, ([.bool], [])),
 (93, ([.agg [.int .i64, .int .i64, .bool, .str, .str, .int .i64, .bool, .int .i64, .int .i64, .str, .int .i64, .row 0 aG.ks 130 32, .str, .str, .bool, .int .i64, .int .i64, .int .i64, .bool, .int .i64, .str, .str, .int .i64, .bool, .int .i64, .int .i64, .str, .int .i64, .row 1 aG.ks 130 32, .bool, .int .i64, .row 2 aF.ks 60 32, .row 3 [.str] 9 16, .row 4 [.int .i64] 3 8]], [])),
 (39, ([aB.sh, .row 0 aC.ks 49 416, .bool], [])),
 (140, ([.bool], [])),
 (83, ([.int .i64], [])),
 (84, ([.int .i64], [])),
 (142, ([.int .i64], [])),
 (172, ([.bool], [])),
 (143, ([.int .i64], [])),
 (85, ([.int .i64], [])),
 (86, ([.int .i64], [])),
 (144, ([.bool], [])),
 (87, ([.int .i64], [])),
 (33, ([.int .i64], [])),
 (11, ([.bool], [])),
 (100, ([.bool], [])),
 (101, ([.bool], [])),
 (48, ([.bool], [])),
 (99, ([.bool], [])),
 (150, ([.row 0 [.str] 9 16], [])),
 (98, ([.bool], [])),
 (47, ([.bool], [])),
 (102, ([.bool], [])),
 (49, ([.int .i64], [])),
 (13, ([.int .i64], [])),
 (148, ([.bool], [])),
 (53, ([aB.sh], [])),
 (158, ([.agg [.row 0 [.int .i64] 3 8, .int .i64], .bool], [])),
 (118, ([.agg [.int .i64, .row 0 aD.ks 122 128, .row 1 [.int .i64] 3 8, .int .i64]], [])),
 (88, ([.bool], [])),
 (89, ([.int .i64], [])),
 (173, ([.int .i64], [])),
 (174, ([.row 0 [.int .i64] 3 8], [])),
 (145, ([.int .i64, .agg [.row 0 [.int .i64] 3 8, .int .i64], .int .i64], [])),
 (146, ([.agg [.int .i64, .int .i64, .bool, .str, .str, .int .i64, .bool, .int .i64, .int .i64, .str, .int .i64, .sl aG.ks, .str, .str, .bool, .int .i64, .int .i64, .int .i64, .bool, .int .i64, .str, .str, .int .i64, .bool, .int .i64, .int .i64, .str, .int .i64, .row 0 aG.ks 130 32, .bool, .int .i64, .row 1 aF.ks 60 32, .row 2 [.str] 9 16, .row 3 [.int .i64] 3 8]], [])),
 (90, ([.agg [.int .i64, .row 0 aD.ks 122 128, .row 1 [.int .i64] 3 8, .int .i64], .agg [.int .i64, .int .i64, .bool, .str, .str, .int .i64, .bool, .int .i64, .int .i64, .str, .int .i64, .sl aG.ks, .str, .str, .bool, .int .i64, .int .i64, .int .i64, .bool, .int .i64, .str, .str, .int .i64, .bool, .int .i64, .int .i64, .str, .int .i64, .row 2 aG.ks 130 32, .bool, .int .i64, .row 3 aF.ks 60 32, .row 4 [.str] 9 16, .row 5 [.int .i64] 3 8], .int .i64], [])),
 (35, ([aB.sh, .row 0 aC.ks 49 416], [])),
 (82, ([.agg [.int .i64, .row 0 aD.ks 122 128, .row 1 [.int .i64] 3 8, .int .i64]], [])),
 (32, ([.agg [.str, .str, .bool, .int .i64, .int .i64, .int .i64, .int .i64, .row 0 aF.ks 60 32, .row 1 aA.ks 34 112, .int .i64, .row 2 aD.ks 122 128, .row 3 [.int .i64] 3 8, .int .i64, .row 4 [.int .i64] 3 8, .bool, .int .i64, .str, .str, .int .i64, .bool, .int .i64, .int .i64, .str, .int .i64, .sl aG.ks]], []))]
def mvL : List (Nat × Bool) := [(68, true), (178, true), (61, true), (176, true), (155, true), (64, true)]
def naL : List (Nat × List (List (Option (List CK × TypeId × Nat)))) := [(68, [[some (aF.ks, 60, 32)], [], [some (aF.ks, 60, 32)]]), (178, [[some ([.int .i64], 3, 8)], [], [some ([.int .i64], 3, 8)]]), (61, [[], [], [some (aC.ks, 49, 416)]]), (176, [[some ([.int .i64], 3, 8)], [], []]), (155, [[some (aD.ks, 122, 128)], [], []]), (64, [[some (aA.ks, 34, 112)], []])]
def hlL : List (Nat × List (Nat × Hint)) := [(139, [(4, ⟨[(15, .it 4000)], [], []⟩)]),
 (161, [(5, ⟨[(3, .int .i64), (15, .it 4000)], [], []⟩)]),
 (198, [(6, ⟨[(0, .str), (1, .str), (5, .int .i64)], [], []⟩)]),
 (190, [(11, ⟨[(0, .str), (1, .str), (2, .int .i64), (3, .int .i64), (9, .row 3009 [.str] 9 16), (10, .int .i64)], [], []⟩)]),
 (126, [(6, ⟨[(3, .sl [.str]), (4, .bool), (15, .sl [.str]), (16, .int .i64), (17, .int .i64)], [], []⟩), (9, ⟨[(3, .sl [.str]), (4, .bool), (5, .int .i64), (6, .str), (15, .sl [.str]), (16, .int .i64), (17, .int .i64), (23, .it 4000)], [], []⟩)]),
 (128, [(3, ⟨[(0, .sl aF.ks), (1, .str), (2, .fn 129 [] []), (8, .int .i64), (9, .int .i64), (10, .int .i64)], [], []⟩)]),
 (50, [(4, ⟨[(1, .ptr 1000000000 0), (2, .ptr 1000000001 0), (3, .row 3003 aA.ks 34 112), (18, .sl aA.ks), (19, .int .i64), (20, .int .i64)], [(38, [.str, .str, .bool, .int .i64, .int .i64, .int .i64, .int .i64, .row 50007 aF.ks 60 32, .sl aA.ks, .int .i64, .sl aD.ks, .sl [.int .i64], .int .i64, .sl [.int .i64], .bool, .int .i64, .str, .str, .int .i64, .bool, .int .i64, .int .i64, .str, .int .i64, .sl aG.ks]), (38, aB.shs)], []⟩), (11, ⟨[(1, .ptr 1000000000 0), (2, .ptr 1000000001 0), (6, .row 3006 aD.ks 122 128), (39, .sl aD.ks), (40, .int .i64), (41, .int .i64)], [(38, [.str, .str, .bool, .int .i64, .int .i64, .int .i64, .int .i64, .row 50007 aF.ks 60 32, .row 50008 aA.ks 34 112, .int .i64, .sl aD.ks, .sl [.int .i64], .int .i64, .sl [.int .i64], .bool, .int .i64, .str, .str, .int .i64, .bool, .int .i64, .int .i64, .str, .int .i64, .sl aG.ks]), (38, aB.shs)], []⟩)]),
 (105, [(3, ⟨[(5, .row 3005 aA.ks 34 112), (13, .sl aA.ks), (14, .int .i64), (15, .int .i64)], [], []⟩)]),
 (169, [(4, ⟨[(9, .it 4000)], [], []⟩)]),
 (184, [(4, ⟨[(0, .str), (3, .int .i64)], [], []⟩)]),
 (171, [(4, ⟨[(0, .sl aG.ks), (8, .sl aG.ks), (9, .int .i64), (10, .int .i64)], [], []⟩)]),
 (175, [(3, ⟨[(0, .sl [.int .i64]), (1, .int .i64), (6, .int .i64), (7, .int .i64), (8, .int .i64)], [], []⟩)]),
 (157, [(5, ⟨[(1, .ptr 1000000000 0), (3, .ptr 1000000001 0), (5, .int .i64), (18, .int .i64), (19, .int .i64)], [(27, aN.shs), (27, aN.shs)], []⟩)]),
 (110, [(3, ⟨[(1, .ptr 1000000000 0), (2, .ptr 1000000001 0), (3, .row 3003 aD.ks 122 128), (12, .sl aD.ks), (13, .int .i64), (14, .int .i64)], [(29, aI.shs), (29, aI.shs)], []⟩)]),
 (61, [(1, ⟨[(1, .int .i64), (2, .row 3002 aC.ks 49 416), (3, .ptr 1000000000 0), (6, .ptr 1000000001 0)], [(38, aB.shs), (38, aB.shs)], []⟩)]),
 (151, [(2, ⟨[(0, .sl aD.ks), (1, .fn 152 [] [.ptr 2000000000 0]), (7, .int .i64), (8, .int .i64)], [], [(3, [.int .i64])]⟩)]),
 (123, [(2, ⟨[(0, .sl aA.ks), (1, .fn 65 [] []), (7, .int .i64), (8, .int .i64)], [], []⟩)]),
 (64, [(5, ⟨[(0, .row 3000 aA.ks 34 112), (1, .fn 65 [] []), (5, .int .i64), (6, .int .i64)], [], []⟩)]),
 (91, [(3, ⟨[(1, .ptr 1000000000 0), (3, .row 3003 aC.ks 49 416), (9, .int .i64), (10, .int .i64)], [(29, aI.shs)], []⟩)]),
 (84, [(4, ⟨[(1, .ptr 1000000000 0), (14, .sl aF.ks), (15, .int .i64), (16, .int .i64)], [(38, aB.shs)], []⟩), (15, ⟨[(46, .sl aA.ks), (47, .int .i64), (48, .int .i64)], [], []⟩)]),
 (142, [(5, ⟨[(1, .ptr 1000000000 0), (3, .int .i64), (11, .sl [.int .i64]), (12, .int .i64), (13, .int .i64)], [(27, aN.shs)], []⟩)]),
 (85, [(9, ⟨[(1, .ptr 1000000000 0), (26, .int .i64), (27, .int .i64)], [(29, aI.shs)], []⟩)]),
 (86, [(5, ⟨[(3, .int .i64), (11, .sl [.int .i64]), (12, .int .i64), (13, .int .i64)], [], []⟩)]),
 (144, [(4, ⟨[(3, .ptr 1000000000 0), (71, .sl aG.ks), (72, .int .i64), (73, .int .i64)], [(34, aA.shs)], []⟩)]),
 (11, [(4, ⟨[(1, .int .i64), (2, .int .i64), (3, .sl aK.ks), (9, .ptr 1000000000 0), (10, .int .i64), (11, .int .i64), (12, .int .i64), (13, .int .i64), (14, .int .i64)], [(38, aB.shs)], []⟩), (18, ⟨[(1, .int .i64), (2, .int .i64), (3, .sl aK.ks), (9, .ptr 1000000000 0), (10, .int .i64), (11, .int .i64), (12, .int .i64), (13, .int .i64), (14, .int .i64), (17, .row 3017 aC.ks 49 416), (19, .int .i64), (32, .int .i64), (33, .bool)], [(38, aB.shs)], []⟩), (28, ⟨[(1, .int .i64), (2, .int .i64), (3, .sl aK.ks), (9, .ptr 1000000000 0), (10, .int .i64), (11, .int .i64), (12, .int .i64), (13, .int .i64), (14, .int .i64), (20, .int .i64), (32, .int .i64), (33, .bool), (154, .ptr 1000000000 9), (155, .ptr 1000000000 10), (156, .sl aD.ks), (157, .int .i64), (158, .int .i64), (159, .bool), (162, aB.sh), (163, .int .i64), (164, .bool)], [(38, aB.shs)], []⟩)]),
 (48, [(4, ⟨[(0, .str), (3, .int .i64)], [], []⟩)]),
 (99, [(2, ⟨[(0, .str), (1, .int .u8), (5, .int .i64)], [], []⟩)]),
 (150, [(4, ⟨[(0, .str), (3, .row 3003 [.str] 9 16), (4, .int .i64), (5, .int .i64)], [], []⟩)]),
 (102, [(4, ⟨[(0, .str), (3, .int .i64)], [], []⟩)]),
 (49, [(4, ⟨[(0, .sl aG.ks), (3, .int .i64)], [], []⟩)]),
 (148, [(2, ⟨[(1, .int .i64), (2, .ptr 1000000000 0), (5, .int .i64)], [(27, aN.shs)], []⟩)]),
 (158, [(3, ⟨[(1, .int .i64), (2, .ptr 1000000000 0), (4, .ptr 1000000001 0), (6, .row 3006 [.int .i64] 3 8), (7, .int .i64)], [(27, aN.shs), (27, aN.shs)], []⟩)]),
 (174, [(3, ⟨[(0, .sl [.int .i64]), (1, .int .i64), (5, .row 3005 [.int .i64] 3 8), (6, .int .i64)], [], []⟩)]),
 (145, [(5, ⟨[(1, .ptr 1000000000 0), (3, .ptr 1000000001 0), (5, .int .i64), (6, .int .i64)], [(27, aN.shs), (27, aN.shs)], []⟩)]),
 (35, [(4, ⟨[(1, .int .i64), (2, .ptr 1000000000 0), (4, .ptr 1000000001 0), (6, .row 3006 aC.ks 49 416)], [(38, aB.shs), (38, aB.shs)], []⟩)])]
def hrL : List (Nat × List (Nat × Hint)) := [(139, [(3, ⟨[(0, .str)], [], []⟩), (7, ⟨[(3, .int .i64), (4, .int .i32), (5, .bool), (15, .it 4000)], [], []⟩)]),
 (161, [(3, ⟨[(0, .str)], [], []⟩)]),
 (190, [(7, ⟨[(0, .str), (1, .str), (2, .int .i64), (3, .int .i64)], [], []⟩), (17, ⟨[(0, .str), (9, .row 3009 [.str] 9 16), (10, .int .i64)], [], []⟩)]),
 (26, [(7, ⟨[(2, .ptr 1000000000 0), (3, .ptr 1000000001 0), (4, .ptr 1000000002 0), (8, .int .i64), (9, .bool)], [(38, aB.shs), (60, aF.shs), (38, aB.shs)], []⟩)]),
 (52, [(6, ⟨[(5, .ptr 1000000000 0), (11, .row 3011 aA.ks 34 112)], [(34, aA.shs)], []⟩)]),
 (15, [(4, ⟨[(2, .int .i64), (3, .int .i64), (4, .ptr 1000000000 0), (5, .ptr 1000000001 0), (8, .ptr 1000000002 0), (10, .ptr 1000000003 0)], [(38, aB.shs), (34, aA.shs), (38, aB.shs), (38, [.str, .str, .bool, .int .i64, .int .i64, .int .i64, .int .i64, .row 50307 aF.ks 60 32, .row 50308 aA.ks 34 112, .int .i64, .row 50310 aD.ks 122 128, .row 50311 [.int .i64] 3 8, .int .i64, .row 50313 [.int .i64] 3 8, .bool, .int .i64, .str, .str, .int .i64, .bool, .int .i64, .int .i64, .str, .int .i64, .row 50324 aG.ks 130 32])], []⟩)]),
 (184, [(3, ⟨[(0, .str)], [], []⟩)]),
 (60, [(5, ⟨[(2, .ptr 1000000000 0), (3, .ptr 1000000001 0), (4, .ptr 1000000002 0), (7, .int .i64), (8, .ptr 1000000003 0)], [(29, aI.shs), (49, aC.shs), (29, aI.shs), (122, aD.shs)], []⟩)]),
 (39, [(15, ⟨[(2, .int .i64), (3, .ptr 1000000000 0), (6, .ptr 1000000001 0), (14, .int .i64)], [(38, aB.shs), (38, aB.shs)], []⟩), (17, ⟨[(2, .int .i64), (3, .ptr 1000000000 0), (6, .ptr 1000000001 0), (14, .int .i64)], [(38, aB.shs), (38, aB.shs)], []⟩)]),
 (83, [(3, ⟨[(1, .ptr 1000000000 0)], [(38, aB.shs)], []⟩), (5, ⟨[(1, .ptr 1000000000 0)], [(38, aB.shs)], []⟩)]),
 (143, [(4, ⟨[(5, .ptr 1000000000 0)], [(122, aD.shs)], []⟩)]),
 (85, [(3, ⟨[(1, .ptr 1000000000 0)], [(29, aI.shs)], []⟩)]),
 (144, [(3, ⟨[(2, .ptr 1000000000 0), (3, .ptr 1000000001 0)], [(34, aA.shs), (34, aA.shs)], []⟩)]),
 (11, [(6, ⟨[(1, .int .i64), (2, .int .i64), (3, .sl aK.ks), (9, .ptr 1000000000 0), (10, .int .i64), (11, .int .i64), (12, .int .i64), (13, .int .i64), (14, .int .i64), (32, .int .i64), (33, .bool)], [(38, aB.shs)], []⟩), (12, ⟨[(1, .int .i64), (2, .int .i64), (3, .sl aK.ks), (9, .ptr 1000000000 0), (10, .int .i64), (11, .int .i64), (12, .int .i64), (13, .int .i64), (14, .int .i64), (15, .ptr 1000000001 0), (32, .int .i64), (33, .bool)], [(38, aB.shs), (34, aA.shs)], []⟩), (25, ⟨[(1, .int .i64), (2, .int .i64), (3, .sl aK.ks), (9, .ptr 1000000000 0), (10, .int .i64), (11, .int .i64), (12, .int .i64), (13, .int .i64), (14, .int .i64), (32, .int .i64), (33, .bool)], [(38, aB.shs)], []⟩), (27, ⟨[(1, .int .i64), (2, .int .i64), (3, .sl aK.ks), (9, .ptr 1000000000 0), (10, .int .i64), (11, .int .i64), (12, .int .i64), (13, .int .i64), (14, .int .i64), (32, .int .i64), (33, .bool), (154, .ptr 1000000000 9), (155, .ptr 1000000000 10), (156, .sl aD.ks), (157, .int .i64), (158, .int .i64), (159, .bool), (162, aB.sh), (163, .int .i64), (164, .bool)], [(38, aB.shs)], []⟩)]),
 (48, [(3, ⟨[(0, .str)], [], []⟩)]),
 (102, [(3, ⟨[(0, .str)], [], []⟩)]),
 (13, [(7, ⟨[(1, .ptr 1000000000 0)], [(34, aA.shs)], []⟩), (9, ⟨[(1, .ptr 1000000000 0)], [(34, aA.shs)], []⟩), (11, ⟨[(1, .ptr 1000000000 0)], [(34, aA.shs)], []⟩)]),
 (174, [(4, ⟨[(0, .sl [.int .i64]), (1, .int .i64), (5, .row 3005 [.int .i64] 3 8), (6, .int .i64), (12, .sl [.int .i64]), (13, .int .i64), (15, .int .i64), (16, .int .i64), (17, .bool)], [], []⟩), (6, ⟨[(0, .sl [.int .i64]), (1, .int .i64), (5, .row 3005 [.int .i64] 3 8), (6, .int .i64)], [], []⟩)]),
 (145, [(8, ⟨[(1, .ptr 1000000000 0), (3, .ptr 1000000001 0), (5, .int .i64)], [(27, aN.shs), (27, aN.shs)], []⟩)])]
def eqL : List (Nat × List CK) := [(130, [.str, .str])]
def prL : List (Nat × Prim) := [(182, .cmpString), (201, .indexByte), (205, .countByte)]
def lbL : List (Nat × LibK) := [(68, .insert aF.ks 60 32), (178, .insert [.int .i64] 3 8), (176, .spec (ajL [.int .i64] 3 8)), (155, .spec (ajL aD.ks 122 128))]
def SE : Env := { fn := assoc fnL, ty := assoc tyL, tm := assoc tmL, mv := fun f => match assoc mvL f with | some b => b | none => false, eqt := assoc eqL, pv := fun _ => none, hl := fun f r => match assoc hlL f with | some l => assoc l r | none => none, hr := fun f r => match assoc hrL f with | some l => assoc l r | none => none, prim := assoc prL, lib := assoc lbL, na := fun f => match assoc naL f with | some l => l | none => [], cut := fun d t => (Nat.beq d 41 && Nat.beq t 23) }
def cM : ((List aG)) → Out := fun r => .ret [.row 0] [] [⟨aG.ks, 130, 32, (List.map aG.enc r)⟩]
theorem nS : ∀ y z, cM y = cM z → y = z := fun y z h => map_inj aG.inj (congrArg (fun o => cY 0 (Out.rws o)) h)
def bW : (aA) → Out := fun r => .ret [.agg [.d (.str r.Topic), .d (.str r.Payload), .d (.int .i64 r.Level), .d (.bool r.Retain), .d (.int .i64 r.Priority), .d (.int .i64 r.Expires), .d (.str r.From), .d (.int .i64 r.Seq), .row 0]] [] [⟨aG.ks, 130, 32, (List.map aG.enc r.Props)⟩]
theorem dB : ∀ y z, bW y = bW z → y = z := fun y z h => aA.inj (congrArg (fun o => [avD (aM 0 (cellsOf (aM 0 (Out.res o)))), avD (aM 1 (cellsOf (aM 0 (Out.res o)))), avD (aM 2 (cellsOf (aM 0 (Out.res o)))), avD (aM 3 (cellsOf (aM 0 (Out.res o)))), avD (aM 4 (cellsOf (aM 0 (Out.res o)))), avD (aM 5 (cellsOf (aM 0 (Out.res o)))), avD (aM 6 (cellsOf (aM 0 (Out.res o)))), avD (aM 7 (cellsOf (aM 0 (Out.res o)))), D.sl aG.ks (cY 0 (Out.rws o))]) h)
def bX : (aI) → Out := fun r => .ret [.agg [.d (.int .i64 r.Limit), .row 0, .row 1, .d (.int .i64 r.Pool.Last)]] [] [⟨aD.ks, 122, 128, (List.map aD.enc r.Items)⟩, ⟨[.int .i64], 3, 8, (List.map (encI .i64) r.Pool.Used)⟩]
theorem fE : ∀ y z, bX y = bX z → y = z := fun y z h => aI.inj (congrArg (fun o => [avD (aM 0 (cellsOf (aM 0 (Out.res o)))), D.sl aD.ks (cY 0 (Out.rws o)), D.sl [.int .i64] (cY 1 (Out.rws o)), avD (aM 3 (cellsOf (aM 0 (Out.res o))))]) h)
def cB : (aB) → Out := fun r => .ret [.agg [.d (.str r.Client), .d (.str r.User), .d (.bool r.Online), .d (.int .i64 r.Conn), .d (.int .i64 r.Expiry), .d (.int .i64 r.Until), .d (.int .i64 r.Dropped), .row 0, .row 1, .d (.int .i64 r.Out.Limit), .row 2, .row 3, .d (.int .i64 r.Out.Pool.Last), .row 4, .d (.bool r.Will.Set), .d (.int .i64 r.Will.Delay), .d (.str r.Will.Message.Topic), .d (.str r.Will.Message.Payload), .d (.int .i64 r.Will.Message.Level), .d (.bool r.Will.Message.Retain), .d (.int .i64 r.Will.Message.Priority), .d (.int .i64 r.Will.Message.Expires), .d (.str r.Will.Message.From), .d (.int .i64 r.Will.Message.Seq), .row 5]] [] [⟨aF.ks, 60, 32, (List.map aF.enc r.Subs)⟩, ⟨aA.ks, 34, 112, (List.map aA.enc r.Queue)⟩, ⟨aD.ks, 122, 128, (List.map aD.enc r.Out.Items)⟩, ⟨[.int .i64], 3, 8, (List.map (encI .i64) r.Out.Pool.Used)⟩, ⟨[.int .i64], 3, 8, (List.map (encI .i64) r.In.IDs)⟩, ⟨aG.ks, 130, 32, (List.map aG.enc r.Will.Message.Props)⟩]
theorem gB : ∀ y z, cB y = cB z → y = z := fun y z h => aB.inj (congrArg (fun o => [avD (aM 0 (cellsOf (aM 0 (Out.res o)))), avD (aM 1 (cellsOf (aM 0 (Out.res o)))), avD (aM 2 (cellsOf (aM 0 (Out.res o)))), avD (aM 3 (cellsOf (aM 0 (Out.res o)))), avD (aM 4 (cellsOf (aM 0 (Out.res o)))), avD (aM 5 (cellsOf (aM 0 (Out.res o)))), avD (aM 6 (cellsOf (aM 0 (Out.res o)))), D.sl aF.ks (cY 0 (Out.rws o)), D.sl aA.ks (cY 1 (Out.rws o)), avD (aM 9 (cellsOf (aM 0 (Out.res o)))), D.sl aD.ks (cY 2 (Out.rws o)), D.sl [.int .i64] (cY 3 (Out.rws o)), avD (aM 12 (cellsOf (aM 0 (Out.res o)))), D.sl [.int .i64] (cY 4 (Out.rws o)), avD (aM 14 (cellsOf (aM 0 (Out.res o)))), avD (aM 15 (cellsOf (aM 0 (Out.res o)))), avD (aM 16 (cellsOf (aM 0 (Out.res o)))), avD (aM 17 (cellsOf (aM 0 (Out.res o)))), avD (aM 18 (cellsOf (aM 0 (Out.res o)))), avD (aM 19 (cellsOf (aM 0 (Out.res o)))), avD (aM 20 (cellsOf (aM 0 (Out.res o)))), avD (aM 21 (cellsOf (aM 0 (Out.res o)))), avD (aM 22 (cellsOf (aM 0 (Out.res o)))), avD (aM 23 (cellsOf (aM 0 (Out.res o)))), D.sl aG.ks (cY 5 (Out.rws o))]) h)
def stringslite_HasPrefix_out : (Bool) → Out := fun r => .ret [.d (.bool r)] [] []
theorem stringslite_HasPrefix_inj : ∀ y z, stringslite_HasPrefix_out y = stringslite_HasPrefix_out z → y = z := fun y z h => congrArg (fun o => bM (avD (aM 0 (Out.res o)))) h
def dA : (Str × Bool) → Out := fun r => .ret [.d (.str r.1), .d (.bool r.2)] [] []
theorem vT : ∀ y z, dA y = dA z → y = z := fun y z h => Prod.ext (congrArg (fun o => bC (avD (aM 0 (Out.res o)))) h) (congrArg (fun o => bM (avD (aM 1 (Out.res o)))) h)
def stringslite_IndexByte_out : (Int) → Out := fun r => .ret [.d (.int .i64 r)] [] []
theorem stringslite_IndexByte_inj : ∀ y z, stringslite_IndexByte_out y = stringslite_IndexByte_out z → y = z := fun y z h => congrArg (fun o => aR (avD (aM 0 (Out.res o)))) h
def stringslite_Cut_out : (Str × Str × Bool) → Out := fun r => .ret [.d (.str r.1), .d (.str r.2.1), .d (.bool r.2.2)] [] []
theorem stringslite_Cut_inj : ∀ y z, stringslite_Cut_out y = stringslite_Cut_out z → y = z := fun y z h => Prod.ext (congrArg (fun o => bC (avD (aM 0 (Out.res o)))) h) (Prod.ext (congrArg (fun o => bC (avD (aM 1 (Out.res o)))) h) (congrArg (fun o => bM (avD (aM 2 (Out.res o)))) h))
def cF : ((List Str)) → Out := fun r => .ret [.d (.sl [.str] (List.map bL r))] [] []
theorem uP : ∀ y z, cF y = cF z → y = z := fun y z h => map_inj ajM (congrArg (fun o => dSl (avD (aM 0 (Out.res o)))) h)
def iF : (Bool × aF) → Out := fun r => .ret [.d (.bool r.1)] [⟨60, (aF.avs r.2)⟩] []
theorem aeO : ∀ y z, iF y = iF z → y = z := fun y z h => Prod.ext (congrArg (fun o => bM (avD (aM 0 (Out.res o)))) h) (aF.inj (congrArg (fun o => List.map avD (aru 0 (Out.bxs o))) h))
def aX : (Int × Bool) → Out := fun r => .ret [.d (.int .i64 r.1), .d (.bool r.2)] [] []
theorem cG : ∀ y z, aX y = aX z → y = z := fun y z h => Prod.ext (congrArg (fun o => aR (avD (aM 0 (Out.res o)))) h) (congrArg (fun o => bM (avD (aM 1 (Out.res o)))) h)
def bJ : ((List aF)) → Out := fun r => .ret [.row 0] [] [⟨aF.ks, 60, 32, (List.map aF.enc r)⟩]
theorem eD : ∀ y z, bJ y = bJ z → y = z := fun y z h => map_inj aF.inj (congrArg (fun o => cY 0 (Out.rws o)) h)
def bI : ((List Int)) → Out := fun r => .ret [.row 0] [] [⟨[.int .i64], 3, 8, (List.map (encI .i64) r)⟩]
theorem dN : ∀ y z, bI y = bI z → y = z := fun y z h => map_inj (afX _) (congrArg (fun o => cY 0 (Out.rws o)) h)
def dS : (aB × Bool × Int) → Out := fun r => .ret [.agg [.d (.str r.1.Client), .d (.str r.1.User), .d (.bool r.1.Online), .d (.int .i64 r.1.Conn), .d (.int .i64 r.1.Expiry), .d (.int .i64 r.1.Until), .d (.int .i64 r.1.Dropped), .row 0, .row 1, .d (.int .i64 r.1.Out.Limit), .row 2, .row 3, .d (.int .i64 r.1.Out.Pool.Last), .row 4, .d (.bool r.1.Will.Set), .d (.int .i64 r.1.Will.Delay), .d (.str r.1.Will.Message.Topic), .d (.str r.1.Will.Message.Payload), .d (.int .i64 r.1.Will.Message.Level), .d (.bool r.1.Will.Message.Retain), .d (.int .i64 r.1.Will.Message.Priority), .d (.int .i64 r.1.Will.Message.Expires), .d (.str r.1.Will.Message.From), .d (.int .i64 r.1.Will.Message.Seq), .row 5], .d (.bool r.2.1), .d (.int .i64 r.2.2)] [] [⟨aF.ks, 60, 32, (List.map aF.enc r.1.Subs)⟩, ⟨aA.ks, 34, 112, (List.map aA.enc r.1.Queue)⟩, ⟨aD.ks, 122, 128, (List.map aD.enc r.1.Out.Items)⟩, ⟨[.int .i64], 3, 8, (List.map (encI .i64) r.1.Out.Pool.Used)⟩, ⟨[.int .i64], 3, 8, (List.map (encI .i64) r.1.In.IDs)⟩, ⟨aG.ks, 130, 32, (List.map aG.enc r.1.Will.Message.Props)⟩]
theorem yZ : ∀ y z, dS y = dS z → y = z := fun y z h => Prod.ext (aB.inj (congrArg (fun o => [avD (aM 0 (cellsOf (aM 0 (Out.res o)))), avD (aM 1 (cellsOf (aM 0 (Out.res o)))), avD (aM 2 (cellsOf (aM 0 (Out.res o)))), avD (aM 3 (cellsOf (aM 0 (Out.res o)))), avD (aM 4 (cellsOf (aM 0 (Out.res o)))), avD (aM 5 (cellsOf (aM 0 (Out.res o)))), avD (aM 6 (cellsOf (aM 0 (Out.res o)))), D.sl aF.ks (cY 0 (Out.rws o)), D.sl aA.ks (cY 1 (Out.rws o)), avD (aM 9 (cellsOf (aM 0 (Out.res o)))), D.sl aD.ks (cY 2 (Out.rws o)), D.sl [.int .i64] (cY 3 (Out.rws o)), avD (aM 12 (cellsOf (aM 0 (Out.res o)))), D.sl [.int .i64] (cY 4 (Out.rws o)), avD (aM 14 (cellsOf (aM 0 (Out.res o)))), avD (aM 15 (cellsOf (aM 0 (Out.res o)))), avD (aM 16 (cellsOf (aM 0 (Out.res o)))), avD (aM 17 (cellsOf (aM 0 (Out.res o)))), avD (aM 18 (cellsOf (aM 0 (Out.res o)))), avD (aM 19 (cellsOf (aM 0 (Out.res o)))), avD (aM 20 (cellsOf (aM 0 (Out.res o)))), avD (aM 21 (cellsOf (aM 0 (Out.res o)))), avD (aM 22 (cellsOf (aM 0 (Out.res o)))), avD (aM 23 (cellsOf (aM 0 (Out.res o)))), D.sl aG.ks (cY 5 (Out.rws o))]) h)) (Prod.ext (congrArg (fun o => bM (avD (aM 1 (Out.res o)))) h) (congrArg (fun o => aR (avD (aM 2 (Out.res o)))) h))
def bR : (aB) → Out := fun r => .ret [aB.av r] [] []
theorem dK : ∀ y z, bR y = bR z → y = z := fun y z h => aB.inj (congrArg (fun o => List.map avD (cellsOf (aM 0 (Out.res o)))) h)
def eY : ((List aA)) → Out := fun r => .ret [.row 0] [] [⟨aA.ks, 34, 112, (List.map aA.enc r)⟩]
theorem afp : ∀ y z, eY y = eY z → y = z := fun y z h => map_inj aA.inj (congrArg (fun o => cY 0 (Out.rws o)) h)
def kM : ((List aA) × (List aA) × Bool) → Out := fun r => .ret [.row 0, .row 1, .d (.bool r.2.2)] [] [⟨aA.ks, 34, 112, (List.map aA.enc r.1)⟩, ⟨aA.ks, 34, 112, (List.map aA.enc r.2.1)⟩]
theorem amM : ∀ y z, kM y = kM z → y = z := fun y z h => Prod.ext (map_inj aA.inj (congrArg (fun o => cY 0 (Out.rws o)) h)) (Prod.ext (map_inj aA.inj (congrArg (fun o => cY 1 (Out.rws o)) h)) (congrArg (fun o => bM (avD (aM 2 (Out.res o)))) h))
def cW : (aB × Bool) → Out := fun r => .ret [aB.av r.1, .d (.bool r.2)] [] []
theorem pF : ∀ y z, cW y = cW z → y = z := fun y z h => Prod.ext (aB.inj (congrArg (fun o => List.map avD (cellsOf (aM 0 (Out.res o)))) h)) (congrArg (fun o => bM (avD (aM 1 (Out.res o)))) h)
def eZ : (Int × aN × Int) → Out := fun r => .ret [.d (.int .i64 r.1), .agg [.row 0, .d (.int .i64 r.2.1.Last)], .d (.int .i64 r.2.2)] [] [⟨[.int .i64], 3, 8, (List.map (encI .i64) r.2.1.Used)⟩]
theorem aeW : ∀ y z, eZ y = eZ z → y = z := fun y z h => Prod.ext (congrArg (fun o => aR (avD (aM 0 (Out.res o)))) h) (Prod.ext (aN.inj (congrArg (fun o => [D.sl [.int .i64] (cY 0 (Out.rws o)), avD (aM 1 (cellsOf (aM 1 (Out.res o))))]) h)) (congrArg (fun o => aR (avD (aM 2 (Out.res o)))) h))
def bU : (aC) → Out := fun r => .ret [.agg [.d (.int .i64 r.Kind), .d (.int .i64 r.ID), .d (.bool r.Dup), .d (.str r.Message.Topic), .d (.str r.Message.Payload), .d (.int .i64 r.Message.Level), .d (.bool r.Message.Retain), .d (.int .i64 r.Message.Priority), .d (.int .i64 r.Message.Expires), .d (.str r.Message.From), .d (.int .i64 r.Message.Seq), .row 0, .d (.str r.Client), .d (.str r.User), .d (.bool r.Clean), .d (.int .i64 r.Keep), .d (.int .i64 r.Expiry), .d (.int .i64 r.Window), .d (.bool r.Will.Set), .d (.int .i64 r.Will.Delay), .d (.str r.Will.Message.Topic), .d (.str r.Will.Message.Payload), .d (.int .i64 r.Will.Message.Level), .d (.bool r.Will.Message.Retain), .d (.int .i64 r.Will.Message.Priority), .d (.int .i64 r.Will.Message.Expires), .d (.str r.Will.Message.From), .d (.int .i64 r.Will.Message.Seq), .row 1, .d (.bool r.Present), .d (.int .i64 r.Code), .row 2, .row 3, .row 4]] [] [⟨aG.ks, 130, 32, (List.map aG.enc r.Message.Props)⟩, ⟨aG.ks, 130, 32, (List.map aG.enc r.Will.Message.Props)⟩, ⟨aF.ks, 60, 32, (List.map aF.enc r.Subs)⟩, ⟨[.str], 9, 16, (List.map bL r.Filters)⟩, ⟨[.int .i64], 3, 8, (List.map (encI .i64) r.Codes)⟩]
theorem eO : ∀ y z, bU y = bU z → y = z := fun y z h => aC.inj (congrArg (fun o => [avD (aM 0 (cellsOf (aM 0 (Out.res o)))), avD (aM 1 (cellsOf (aM 0 (Out.res o)))), avD (aM 2 (cellsOf (aM 0 (Out.res o)))), avD (aM 3 (cellsOf (aM 0 (Out.res o)))), avD (aM 4 (cellsOf (aM 0 (Out.res o)))), avD (aM 5 (cellsOf (aM 0 (Out.res o)))), avD (aM 6 (cellsOf (aM 0 (Out.res o)))), avD (aM 7 (cellsOf (aM 0 (Out.res o)))), avD (aM 8 (cellsOf (aM 0 (Out.res o)))), avD (aM 9 (cellsOf (aM 0 (Out.res o)))), avD (aM 10 (cellsOf (aM 0 (Out.res o)))), D.sl aG.ks (cY 0 (Out.rws o)), avD (aM 12 (cellsOf (aM 0 (Out.res o)))), avD (aM 13 (cellsOf (aM 0 (Out.res o)))), avD (aM 14 (cellsOf (aM 0 (Out.res o)))), avD (aM 15 (cellsOf (aM 0 (Out.res o)))), avD (aM 16 (cellsOf (aM 0 (Out.res o)))), avD (aM 17 (cellsOf (aM 0 (Out.res o)))), avD (aM 18 (cellsOf (aM 0 (Out.res o)))), avD (aM 19 (cellsOf (aM 0 (Out.res o)))), avD (aM 20 (cellsOf (aM 0 (Out.res o)))), avD (aM 21 (cellsOf (aM 0 (Out.res o)))), avD (aM 22 (cellsOf (aM 0 (Out.res o)))), avD (aM 23 (cellsOf (aM 0 (Out.res o)))), avD (aM 24 (cellsOf (aM 0 (Out.res o)))), avD (aM 25 (cellsOf (aM 0 (Out.res o)))), avD (aM 26 (cellsOf (aM 0 (Out.res o)))), avD (aM 27 (cellsOf (aM 0 (Out.res o)))), D.sl aG.ks (cY 1 (Out.rws o)), avD (aM 29 (cellsOf (aM 0 (Out.res o)))), avD (aM 30 (cellsOf (aM 0 (Out.res o)))), D.sl aF.ks (cY 2 (Out.rws o)), D.sl [.str] (cY 3 (Out.rws o)), D.sl [.int .i64] (cY 4 (Out.rws o))]) h)
def jH : (aI × aC × Int) → Out := fun r => .ret [.agg [.d (.int .i64 r.1.Limit), .row 0, .row 1, .d (.int .i64 r.1.Pool.Last)], .agg [.d (.int .i64 r.2.1.Kind), .d (.int .i64 r.2.1.ID), .d (.bool r.2.1.Dup), .d (.str r.2.1.Message.Topic), .d (.str r.2.1.Message.Payload), .d (.int .i64 r.2.1.Message.Level), .d (.bool r.2.1.Message.Retain), .d (.int .i64 r.2.1.Message.Priority), .d (.int .i64 r.2.1.Message.Expires), .d (.str r.2.1.Message.From), .d (.int .i64 r.2.1.Message.Seq), .row 2, .d (.str r.2.1.Client), .d (.str r.2.1.User), .d (.bool r.2.1.Clean), .d (.int .i64 r.2.1.Keep), .d (.int .i64 r.2.1.Expiry), .d (.int .i64 r.2.1.Window), .d (.bool r.2.1.Will.Set), .d (.int .i64 r.2.1.Will.Delay), .d (.str r.2.1.Will.Message.Topic), .d (.str r.2.1.Will.Message.Payload), .d (.int .i64 r.2.1.Will.Message.Level), .d (.bool r.2.1.Will.Message.Retain), .d (.int .i64 r.2.1.Will.Message.Priority), .d (.int .i64 r.2.1.Will.Message.Expires), .d (.str r.2.1.Will.Message.From), .d (.int .i64 r.2.1.Will.Message.Seq), .row 3, .d (.bool r.2.1.Present), .d (.int .i64 r.2.1.Code), .row 4, .row 5, .row 6], .d (.int .i64 r.2.2)] [] [⟨aD.ks, 122, 128, (List.map aD.enc r.1.Items)⟩, ⟨[.int .i64], 3, 8, (List.map (encI .i64) r.1.Pool.Used)⟩, ⟨aG.ks, 130, 32, (List.map aG.enc r.2.1.Message.Props)⟩, ⟨aG.ks, 130, 32, (List.map aG.enc r.2.1.Will.Message.Props)⟩, ⟨aF.ks, 60, 32, (List.map aF.enc r.2.1.Subs)⟩, ⟨[.str], 9, 16, (List.map bL r.2.1.Filters)⟩, ⟨[.int .i64], 3, 8, (List.map (encI .i64) r.2.1.Codes)⟩]
theorem ahM : ∀ y z, jH y = jH z → y = z := fun y z h => Prod.ext (aI.inj (congrArg (fun o => [avD (aM 0 (cellsOf (aM 0 (Out.res o)))), D.sl aD.ks (cY 0 (Out.rws o)), D.sl [.int .i64] (cY 1 (Out.rws o)), avD (aM 3 (cellsOf (aM 0 (Out.res o))))]) h)) (Prod.ext (aC.inj (congrArg (fun o => [avD (aM 0 (cellsOf (aM 1 (Out.res o)))), avD (aM 1 (cellsOf (aM 1 (Out.res o)))), avD (aM 2 (cellsOf (aM 1 (Out.res o)))), avD (aM 3 (cellsOf (aM 1 (Out.res o)))), avD (aM 4 (cellsOf (aM 1 (Out.res o)))), avD (aM 5 (cellsOf (aM 1 (Out.res o)))), avD (aM 6 (cellsOf (aM 1 (Out.res o)))), avD (aM 7 (cellsOf (aM 1 (Out.res o)))), avD (aM 8 (cellsOf (aM 1 (Out.res o)))), avD (aM 9 (cellsOf (aM 1 (Out.res o)))), avD (aM 10 (cellsOf (aM 1 (Out.res o)))), D.sl aG.ks (cY 2 (Out.rws o)), avD (aM 12 (cellsOf (aM 1 (Out.res o)))), avD (aM 13 (cellsOf (aM 1 (Out.res o)))), avD (aM 14 (cellsOf (aM 1 (Out.res o)))), avD (aM 15 (cellsOf (aM 1 (Out.res o)))), avD (aM 16 (cellsOf (aM 1 (Out.res o)))), avD (aM 17 (cellsOf (aM 1 (Out.res o)))), avD (aM 18 (cellsOf (aM 1 (Out.res o)))), avD (aM 19 (cellsOf (aM 1 (Out.res o)))), avD (aM 20 (cellsOf (aM 1 (Out.res o)))), avD (aM 21 (cellsOf (aM 1 (Out.res o)))), avD (aM 22 (cellsOf (aM 1 (Out.res o)))), avD (aM 23 (cellsOf (aM 1 (Out.res o)))), avD (aM 24 (cellsOf (aM 1 (Out.res o)))), avD (aM 25 (cellsOf (aM 1 (Out.res o)))), avD (aM 26 (cellsOf (aM 1 (Out.res o)))), avD (aM 27 (cellsOf (aM 1 (Out.res o)))), D.sl aG.ks (cY 3 (Out.rws o)), avD (aM 29 (cellsOf (aM 1 (Out.res o)))), avD (aM 30 (cellsOf (aM 1 (Out.res o)))), D.sl aF.ks (cY 4 (Out.rws o)), D.sl [.str] (cY 5 (Out.rws o)), D.sl [.int .i64] (cY 6 (Out.rws o))]) h)) (congrArg (fun o => aR (avD (aM 2 (Out.res o)))) h))
def bK : (aB × (List aC)) → Out := fun r => .ret [aB.av r.1, .row 0] [] [⟨aC.ks, 49, 416, (List.map aC.enc r.2)⟩]
theorem dX : ∀ y z, bK y = bK z → y = z := fun y z h => Prod.ext (aB.inj (congrArg (fun o => List.map avD (cellsOf (aM 0 (Out.res o)))) h)) (map_inj aC.inj (congrArg (fun o => cY 0 (Out.rws o)) h))
def kA : (Bool × Int) → Out := fun r => .ret [.d (.bool r.1)] [⟨3, [.d (.int .i64 r.2)]⟩] []
theorem agW : ∀ y z, kA y = kA z → y = z := fun y z h => Prod.ext (congrArg (fun o => bM (avD (aM 0 (Out.res o)))) h) (congrArg (fun o => aR (avD (aM 0 (aru 0 (Out.bxs o))))) h)
def cK : (Int × Int) → Out := fun r => .ret [.d (.int .i64 r.1)] [⟨3, [.d (.int .i64 r.2)]⟩] []
theorem sB : ∀ y z, cK y = cK z → y = z := fun y z h => Prod.ext (congrArg (fun o => aR (avD (aM 0 (Out.res o)))) h) (congrArg (fun o => aR (avD (aM 0 (aru 0 (Out.bxs o))))) h)
def fY : (aN × Bool) → Out := fun r => .ret [.agg [.row 0, .d (.int .i64 r.1.Last)], .d (.bool r.2)] [] [⟨[.int .i64], 3, 8, (List.map (encI .i64) r.1.Used)⟩]
theorem afy : ∀ y z, fY y = fY z → y = z := fun y z h => Prod.ext (aN.inj (congrArg (fun o => [D.sl [.int .i64] (cY 0 (Out.rws o)), avD (aM 1 (cellsOf (aM 0 (Out.res o))))]) h)) (congrArg (fun o => bM (avD (aM 1 (Out.res o)))) h)
def cX : ((List aD)) → Out := fun r => .ret [.row 0] [] [⟨aD.ks, 122, 128, (List.map aD.enc r)⟩]
theorem tU : ∀ y z, cX y = cX z → y = z := fun y z h => map_inj aD.inj (congrArg (fun o => cY 0 (Out.rws o)) h)
def gK : (aI × (List aC) × Int) → Out := fun r => .ret [.agg [.d (.int .i64 r.1.Limit), .row 0, .row 1, .d (.int .i64 r.1.Pool.Last)], .row 2, .d (.int .i64 r.2.2)] [] [⟨aD.ks, 122, 128, (List.map aD.enc r.1.Items)⟩, ⟨[.int .i64], 3, 8, (List.map (encI .i64) r.1.Pool.Used)⟩, ⟨aC.ks, 49, 416, (List.map aC.enc r.2.1)⟩]
theorem ag1 : ∀ y z, gK y = gK z → y = z := fun y z h => Prod.ext (aI.inj (congrArg (fun o => [avD (aM 0 (cellsOf (aM 0 (Out.res o)))), D.sl aD.ks (cY 0 (Out.rws o)), D.sl [.int .i64] (cY 1 (Out.rws o)), avD (aM 3 (cellsOf (aM 0 (Out.res o))))]) h)) (Prod.ext (map_inj aC.inj (congrArg (fun o => cY 2 (Out.rws o)) h)) (congrArg (fun o => aR (avD (aM 2 (Out.res o)))) h))
def cZ : (aB × (List aC) × Int) → Out := fun r => .ret [aB.av r.1, .row 0, .d (.int .i64 r.2.2)] [] [⟨aC.ks, 49, 416, (List.map aC.enc r.2.1)⟩]
theorem sF : ∀ y z, cZ y = cZ z → y = z := fun y z h => Prod.ext (aB.inj (congrArg (fun o => List.map avD (cellsOf (aM 0 (Out.res o)))) h)) (Prod.ext (map_inj aC.inj (congrArg (fun o => cY 0 (Out.rws o)) h)) (congrArg (fun o => aR (avD (aM 2 (Out.res o)))) h))
def dL : ((List aC)) → Out := fun r => .ret [.row 0] [] [⟨aC.ks, 49, 416, (List.map aC.enc r)⟩]
theorem aaG : ∀ y z, dL y = dL z → y = z := fun y z h => map_inj aC.inj (congrArg (fun o => cY 0 (Out.rws o)) h)
def gN : (aB × (List aC) × Bool) → Out := fun r => .ret [aB.av r.1, .row 0, .d (.bool r.2.2)] [] [⟨aC.ks, 49, 416, (List.map aC.enc r.2.1)⟩]
theorem agX : ∀ y z, gN y = gN z → y = z := fun y z h => Prod.ext (aB.inj (congrArg (fun o => List.map avD (cellsOf (aM 0 (Out.res o)))) h)) (Prod.ext (map_inj aC.inj (congrArg (fun o => cY 0 (Out.rws o)) h)) (congrArg (fun o => bM (avD (aM 2 (Out.res o)))) h))
def dO : ((List Str)) → Out := fun r => .ret [.row 0] [] [⟨[.str], 9, 16, (List.map bL r)⟩]
def eK : (aC) → Out := fun r => .ret [.agg [.d (.int .i64 r.Kind), .d (.int .i64 r.ID), .d (.bool r.Dup), .d (.str r.Message.Topic), .d (.str r.Message.Payload), .d (.int .i64 r.Message.Level), .d (.bool r.Message.Retain), .d (.int .i64 r.Message.Priority), .d (.int .i64 r.Message.Expires), .d (.str r.Message.From), .d (.int .i64 r.Message.Seq), .d (.sl aG.ks (List.map aG.enc r.Message.Props)), .d (.str r.Client), .d (.str r.User), .d (.bool r.Clean), .d (.int .i64 r.Keep), .d (.int .i64 r.Expiry), .d (.int .i64 r.Window), .d (.bool r.Will.Set), .d (.int .i64 r.Will.Delay), .d (.str r.Will.Message.Topic), .d (.str r.Will.Message.Payload), .d (.int .i64 r.Will.Message.Level), .d (.bool r.Will.Message.Retain), .d (.int .i64 r.Will.Message.Priority), .d (.int .i64 r.Will.Message.Expires), .d (.str r.Will.Message.From), .d (.int .i64 r.Will.Message.Seq), .row 0, .d (.bool r.Present), .d (.int .i64 r.Code), .row 1, .row 2, .row 3]] [] [⟨aG.ks, 130, 32, (List.map aG.enc r.Will.Message.Props)⟩, ⟨aF.ks, 60, 32, (List.map aF.enc r.Subs)⟩, ⟨[.str], 9, 16, (List.map bL r.Filters)⟩, ⟨[.int .i64], 3, 8, (List.map (encI .i64) r.Codes)⟩]
def gS : (aI × aC × Int) → Out := fun r => .ret [.agg [.d (.int .i64 r.1.Limit), .row 0, .row 1, .d (.int .i64 r.1.Pool.Last)], .agg [.d (.int .i64 r.2.1.Kind), .d (.int .i64 r.2.1.ID), .d (.bool r.2.1.Dup), .d (.str r.2.1.Message.Topic), .d (.str r.2.1.Message.Payload), .d (.int .i64 r.2.1.Message.Level), .d (.bool r.2.1.Message.Retain), .d (.int .i64 r.2.1.Message.Priority), .d (.int .i64 r.2.1.Message.Expires), .d (.str r.2.1.Message.From), .d (.int .i64 r.2.1.Message.Seq), .d (.sl aG.ks (List.map aG.enc r.2.1.Message.Props)), .d (.str r.2.1.Client), .d (.str r.2.1.User), .d (.bool r.2.1.Clean), .d (.int .i64 r.2.1.Keep), .d (.int .i64 r.2.1.Expiry), .d (.int .i64 r.2.1.Window), .d (.bool r.2.1.Will.Set), .d (.int .i64 r.2.1.Will.Delay), .d (.str r.2.1.Will.Message.Topic), .d (.str r.2.1.Will.Message.Payload), .d (.int .i64 r.2.1.Will.Message.Level), .d (.bool r.2.1.Will.Message.Retain), .d (.int .i64 r.2.1.Will.Message.Priority), .d (.int .i64 r.2.1.Will.Message.Expires), .d (.str r.2.1.Will.Message.From), .d (.int .i64 r.2.1.Will.Message.Seq), .row 2, .d (.bool r.2.1.Present), .d (.int .i64 r.2.1.Code), .row 3, .row 4, .row 5], .d (.int .i64 r.2.2)] [] [⟨aD.ks, 122, 128, (List.map aD.enc r.1.Items)⟩, ⟨[.int .i64], 3, 8, (List.map (encI .i64) r.1.Pool.Used)⟩, ⟨aG.ks, 130, 32, (List.map aG.enc r.2.1.Will.Message.Props)⟩, ⟨aF.ks, 60, 32, (List.map aF.enc r.2.1.Subs)⟩, ⟨[.str], 9, 16, (List.map bL r.2.1.Filters)⟩, ⟨[.int .i64], 3, 8, (List.map (encI .i64) r.2.1.Codes)⟩]
def kE : (aB) → Out := fun r => .ret [.agg [.d (.str r.Client), .d (.str r.User), .d (.bool r.Online), .d (.int .i64 r.Conn), .d (.int .i64 r.Expiry), .d (.int .i64 r.Until), .d (.int .i64 r.Dropped), .row 0, .row 1, .d (.int .i64 r.Out.Limit), .row 2, .row 3, .d (.int .i64 r.Out.Pool.Last), .row 4, .d (.bool r.Will.Set), .d (.int .i64 r.Will.Delay), .d (.str r.Will.Message.Topic), .d (.str r.Will.Message.Payload), .d (.int .i64 r.Will.Message.Level), .d (.bool r.Will.Message.Retain), .d (.int .i64 r.Will.Message.Priority), .d (.int .i64 r.Will.Message.Expires), .d (.str r.Will.Message.From), .d (.int .i64 r.Will.Message.Seq), .d (.sl aG.ks (List.map aG.enc r.Will.Message.Props))]] [] [⟨aF.ks, 60, 32, (List.map aF.enc r.Subs)⟩, ⟨aA.ks, 34, 112, (List.map aA.enc r.Queue)⟩, ⟨aD.ks, 122, 128, (List.map aD.enc r.Out.Items)⟩, ⟨[.int .i64], 3, 8, (List.map (encI .i64) r.Out.Pool.Used)⟩, ⟨[.int .i64], 3, 8, (List.map (encI .i64) r.In.IDs)⟩]
def good : FuncId → Out → Prop := fun f o => match f with | 138 => ∃ x, cM x = o | 80 => ∃ x, bW x = o | 81 => ∃ x, bX x = o | 31 => ∃ x, cB x = o | 163 => ∃ x, stringslite_HasPrefix_out x = o | 179 => ∃ x, dA x = o | 159 => ∃ x, dA x = o | 193 => ∃ x, stringslite_IndexByte_out x = o | 189 => ∃ x, stringslite_IndexByte_out x = o | 180 => ∃ x, stringslite_Cut_out x = o | 160 => ∃ x, stringslite_Cut_out x = o | 139 => ∃ x, stringslite_HasPrefix_out x = o | 161 => ∃ x, stringslite_HasPrefix_out x = o | 199 => ∃ x, stringslite_IndexByte_out x = o | 198 => ∃ x, stringslite_IndexByte_out x = o | 190 => ∃ x, cF x = o | 181 => ∃ x, cF x = o | 162 => ∃ x, cF x = o | 126 => ∃ x, stringslite_HasPrefix_out x = o | 127 => ∃ x, stringslite_HasPrefix_out x = o | 124 => ∃ x, stringslite_Cut_out x = o | 125 => ∃ x, iF x = o | 66 => ∃ x, stringslite_IndexByte_out x = o | 164 => ∃ x, stringslite_IndexByte_out x = o | 130 => ∃ x, stringslite_IndexByte_out x = o | 129 => ∃ x, stringslite_IndexByte_out x = o | 128 => ∃ x, aX x = o | 67 => ∃ x, aX x = o | 103 => ∃ x, bJ x = o | 104 => ∃ x, bI x = o | 50 => ∃ x, cB x = o | 68 => ∃ x, bJ x = o | 26 => ∃ x, dS x = o | 51 => ∃ x, bR x = o | 106 => ∃ x, bW x = o | 105 => ∃ x, eY x = o | 52 => ∃ x, kM x = o | 15 => ∃ x, cW x = o | 113 => ∃ x, stringslite_HasPrefix_out x = o | 156 => ∃ x, stringslite_IndexByte_out x = o | 169 => ∃ x, stringslite_HasPrefix_out x = o | 170 => ∃ x, stringslite_HasPrefix_out x = o | 184 => ∃ x, stringslite_HasPrefix_out x = o | 171 => ∃ x, stringslite_IndexByte_out x = o | 141 => ∃ x, stringslite_IndexByte_out x = o | 177 => ∃ x, stringslite_IndexByte_out x = o | 191 => ∃ x, stringslite_HasPrefix_out x = o | 185 => ∃ x, stringslite_HasPrefix_out x = o | 186 => ∃ x, stringslite_HasPrefix_out x = o | 175 => ∃ x, aX x = o | 178 => ∃ x, bI x = o | 157 => ∃ x, eZ x = o | 153 => ∃ x, bW x = o | 110 => ∃ x, bX x = o | 147 => ∃ x, bU x = o | 114 => ∃ x, jH x = o | 61 => ∃ x, bK x = o | 34 => ∃ x, bK x = o | 152 => ∃ x, kA x = o | 151 => ∃ x, cK x = o | 109 => ∃ x, stringslite_IndexByte_out x = o | 176 => ∃ x, bI x = o | 154 => ∃ x, fY x = o | 155 => ∃ x, cX x = o | 111 => ∃ x, bX x = o | 112 => ∃ x, bU x = o | 60 => ∃ x, gK x = o | 19 => ∃ x, cZ x = o | 65 => ∃ x, stringslite_HasPrefix_out x = o | 123 => ∃ x, stringslite_IndexByte_out x = o | 64 => ∃ x, eY x = o | 23 => ∃ x, bR x = o | 91 => ∃ x, dL x = o | 36 => ∃ x, bK x = o | 24 => ∃ x, stringslite_HasPrefix_out x = o | 14 => ∃ x, stringslite_HasPrefix_out x = o | 93 => ∃ x, bU x = o | 39 => ∃ x, gN x = o | 140 => ∃ x, stringslite_HasPrefix_out x = o | 83 => ∃ x, stringslite_IndexByte_out x = o | 84 => ∃ x, stringslite_IndexByte_out x = o | 142 => ∃ x, stringslite_IndexByte_out x = o | 172 => ∃ x, stringslite_HasPrefix_out x = o | 143 => ∃ x, stringslite_IndexByte_out x = o | 85 => ∃ x, stringslite_IndexByte_out x = o | 86 => ∃ x, stringslite_IndexByte_out x = o | 144 => ∃ x, stringslite_HasPrefix_out x = o | 87 => ∃ x, stringslite_IndexByte_out x = o | 33 => ∃ x, stringslite_IndexByte_out x = o | 11 => ∃ x, stringslite_HasPrefix_out x = o | 100 => ∃ x, stringslite_HasPrefix_out x = o | 101 => ∃ x, stringslite_HasPrefix_out x = o | 48 => ∃ x, stringslite_HasPrefix_out x = o | 99 => ∃ x, stringslite_HasPrefix_out x = o | 150 => ∃ x, dO x = o | 98 => ∃ x, stringslite_HasPrefix_out x = o | 47 => ∃ x, stringslite_HasPrefix_out x = o | 102 => ∃ x, stringslite_HasPrefix_out x = o | 49 => ∃ x, stringslite_IndexByte_out x = o | 13 => ∃ x, stringslite_IndexByte_out x = o | 148 => ∃ x, stringslite_HasPrefix_out x = o | 53 => ∃ x, bR x = o | 158 => ∃ x, fY x = o | 118 => ∃ x, bX x = o | 88 => ∃ x, stringslite_HasPrefix_out x = o | 89 => ∃ x, stringslite_IndexByte_out x = o | 173 => ∃ x, stringslite_IndexByte_out x = o | 174 => ∃ x, bI x = o | 145 => ∃ x, eZ x = o | 146 => ∃ x, eK x = o | 90 => ∃ x, gS x = o | 35 => ∃ x, bK x = o | 82 => ∃ x, bX x = o | 32 => ∃ x, kE x = o | _ => False
abbrev cT {R : Type} (g : FuncId) (out : R → Out) : Gm R := aix SE good g out
noncomputable abbrev gG : Fun := w3 SE good
end Te
end PX
