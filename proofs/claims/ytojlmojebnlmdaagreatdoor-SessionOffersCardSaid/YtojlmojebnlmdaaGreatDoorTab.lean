import Derived.Test.YtojlmojebnlmdaaGreatDoorMod
import Derived.Test.YtojlmojebnlmdaaGreatDoorProg
set_option linter.unusedVariables false
set_option linter.unusedSimpArgs false
noncomputable section
namespace PX
open Go
open Md
namespace Te
def tyL : List (Nat × TI) := [(3, ⟨[.int .i64], false, 8, [], 0⟩),
 (4, ⟨[.bool], false, 1, [], 0⟩),
 (5, ⟨[.int .u8], false, 1, [], 0⟩),
 (9, ⟨[.str], false, 16, [], 0⟩),
 (21, ⟨[.int .i32], false, 4, [], 0⟩),
 (22, ⟨[.sl [.str, .int .i64, .bool]], false, 24, [], 60⟩),
 (23, ⟨[.sl [.str, .str, .int .i64, .bool, .int .i64, .int .i64, .str, .int .i64, .sl [.str, .str]]], false, 24, [], 34⟩),
 (24, ⟨[.sl [.int .i64, .int .i64, .str, .str, .int .i64, .bool, .int .i64, .int .i64, .str, .int .i64, .sl [.str, .str]]], false, 24, [], 122⟩),
 (25, ⟨[.sl [.int .i64]], false, 24, [], 3⟩),
 (27, ⟨[.sl [.int .i64], .int .i64], true, 32, [(0, 25), (1, 3)], 0⟩),
 (29, ⟨[.int .i64, .sl [.int .i64, .int .i64, .str, .str, .int .i64, .bool, .int .i64, .int .i64, .str, .int .i64, .sl [.str, .str]], .sl [.int .i64], .int .i64], true, 64, [(0, 3), (1, 24), (2, 27)], 0⟩),
 (31, ⟨[.sl [.int .i64]], true, 24, [(0, 25)], 0⟩),
 (32, ⟨[.sl [.str, .str]], false, 24, [], 130⟩),
 (34, ⟨[.str, .str, .int .i64, .bool, .int .i64, .int .i64, .str, .int .i64, .sl [.str, .str]], true, 112, [(0, 9), (1, 9), (2, 3), (3, 4), (4, 3), (5, 3), (6, 9), (7, 3), (8, 32)], 0⟩),
 (36, ⟨[.bool, .int .i64, .str, .str, .int .i64, .bool, .int .i64, .int .i64, .str, .int .i64, .sl [.str, .str]], true, 128, [(0, 4), (1, 3), (2, 34)], 0⟩),
 (38, ⟨[.str, .str, .bool, .int .i64, .int .i64, .int .i64, .int .i64, .sl [.str, .int .i64, .bool], .sl [.str, .str, .int .i64, .bool, .int .i64, .int .i64, .str, .int .i64, .sl [.str, .str]], .int .i64, .sl [.int .i64, .int .i64, .str, .str, .int .i64, .bool, .int .i64, .int .i64, .str, .int .i64, .sl [.str, .str]], .sl [.int .i64], .int .i64, .sl [.int .i64], .bool, .int .i64, .str, .str, .int .i64, .bool, .int .i64, .int .i64, .str, .int .i64, .sl [.str, .str]], true, 336, [(0, 9), (1, 9), (2, 4), (3, 3), (4, 3), (5, 3), (6, 3), (7, 22), (8, 23), (9, 29), (13, 31), (14, 36)], 0⟩),
 (39, ⟨[.int .i64], false, 8, [], 0⟩),
 (47, ⟨[.sl [.str]], false, 24, [], 9⟩),
 (49, ⟨[.int .i64, .int .i64, .bool, .str, .str, .int .i64, .bool, .int .i64, .int .i64, .str, .int .i64, .sl [.str, .str], .str, .str, .bool, .int .i64, .int .i64, .int .i64, .bool, .int .i64, .str, .str, .int .i64, .bool, .int .i64, .int .i64, .str, .int .i64, .sl [.str, .str], .bool, .int .i64, .sl [.str, .int .i64, .bool], .sl [.str], .sl [.int .i64]], true, 416, [(0, 3), (1, 3), (2, 4), (3, 34), (12, 9), (13, 9), (14, 4), (15, 3), (16, 3), (17, 3), (18, 36), (29, 4), (30, 3), (31, 22), (32, 47), (33, 25)], 0⟩),
 (51, ⟨[.sl [.int .i64, .int .i64, .bool, .str, .str, .int .i64, .bool, .int .i64, .int .i64, .str, .int .i64, .sl [.str, .str], .str, .str, .bool, .int .i64, .int .i64, .int .i64, .bool, .int .i64, .str, .str, .int .i64, .bool, .int .i64, .int .i64, .str, .int .i64, .sl [.str, .str], .bool, .int .i64, .sl [.str, .int .i64, .bool], .sl [.str], .sl [.int .i64]]], false, 24, [], 49⟩),
 (60, ⟨[.str, .int .i64, .bool], true, 32, [(0, 9), (1, 3), (2, 4)], 0⟩),
 (77, ⟨[.int .u64], false, 8, [], 0⟩),
 (87, ⟨[.sl [.int .i64]], false, 24, [], 39⟩),
 (103, ⟨[.fn], false, 8, [], 0⟩),
 (122, ⟨[.int .i64, .int .i64, .str, .str, .int .i64, .bool, .int .i64, .int .i64, .str, .int .i64, .sl [.str, .str]], true, 128, [(0, 3), (1, 3), (2, 34)], 0⟩),
 (130, ⟨[.str, .str], true, 32, [(0, 9), (1, 9)], 0⟩),
 (147, ⟨[.fn], false, 8, [], 0⟩),
 (157, ⟨[.fn], false, 8, [], 0⟩)]
def fnL : List (Nat × Func) := [(100, Go.Proofs.Tryz.f100), (101, Go.Proofs.Tryz.f101), (48, Go.Proofs.Tryz.f48), (94, Go.Proofs.Tryz.f94), (41, Go.Proofs.Tryz.f41), (168, Go.Proofs.Tryz.f168), (99, Go.Proofs.Tryz.f99), (150, Go.Proofs.Tryz.f150), (98, Go.Proofs.Tryz.f98), (167, Go.Proofs.Tryz.f167), (166, Go.Proofs.Tryz.f166), (133, Go.Proofs.Tryz.f133), (134, Go.Proofs.Tryz.f134), (135, Go.Proofs.Tryz.f135), (69, Go.Proofs.Tryz.f69), (42, Go.Proofs.Tryz.f42), (47, Go.Proofs.Tryz.f47), (102, Go.Proofs.Tryz.f102), (49, Go.Proofs.Tryz.f49), (13, Go.Proofs.Tryz.f13), (43, Go.Proofs.Tryz.f43), (95, Go.Proofs.Tryz.f95), (148, Go.Proofs.Tryz.f148), (115, Go.Proofs.Tryz.f115), (96, Go.Proofs.Tryz.f96), (44, Go.Proofs.Tryz.f44), (45, Go.Proofs.Tryz.f45), (149, Go.Proofs.Tryz.f149), (97, Go.Proofs.Tryz.f97), (46, Go.Proofs.Tryz.f46), (40, Go.Proofs.Tryz.f40), (12, Go.Proofs.Tryz.f12), (138, Go.Proofs.Tryz.f138), (80, Go.Proofs.Tryz.f80), (81, Go.Proofs.Tryz.f81), (31, Go.Proofs.Tryz.f31), (163, Go.Proofs.Tryz.f163), (179, Go.Proofs.Tryz.f179), (159, Go.Proofs.Tryz.f159), (193, Go.Proofs.Tryz.f193), (189, Go.Proofs.Tryz.f189), (180, Go.Proofs.Tryz.f180), (160, Go.Proofs.Tryz.f160), (139, Go.Proofs.Tryz.f139), (161, Go.Proofs.Tryz.f161), (199, Go.Proofs.Tryz.f199), (198, Go.Proofs.Tryz.f198), (190, Go.Proofs.Tryz.f190), (181, Go.Proofs.Tryz.f181), (162, Go.Proofs.Tryz.f162), (126, Go.Proofs.Tryz.f126), (127, Go.Proofs.Tryz.f127), (124, Go.Proofs.Tryz.f124), (125, Go.Proofs.Tryz.f125), (66, Go.Proofs.Tryz.f66), (164, Go.Proofs.Tryz.f164), (130, Go.Proofs.Tryz.f130), (129, Go.Proofs.Tryz.f129), (128, Go.Proofs.Tryz.f128), (67, Go.Proofs.Tryz.f67), (103, Go.Proofs.Tryz.f103), (104, Go.Proofs.Tryz.f104), (50, Go.Proofs.Tryz.f50), (68, Go.Proofs.Tryz.f68), (26, Go.Proofs.Tryz.f26), (51, Go.Proofs.Tryz.f51), (106, Go.Proofs.Tryz.f106), (105, Go.Proofs.Tryz.f105), (52, Go.Proofs.Tryz.f52), (15, Go.Proofs.Tryz.f15), (113, Go.Proofs.Tryz.f113), (156, Go.Proofs.Tryz.f156), (169, Go.Proofs.Tryz.f169), (170, Go.Proofs.Tryz.f170), (184, Go.Proofs.Tryz.f184), (171, Go.Proofs.Tryz.f171), (141, Go.Proofs.Tryz.f141), (177, Go.Proofs.Tryz.f177), (191, Go.Proofs.Tryz.f191), (185, Go.Proofs.Tryz.f185), (186, Go.Proofs.Tryz.f186), (175, Go.Proofs.Tryz.f175), (178, Go.Proofs.Tryz.f178), (157, Go.Proofs.Tryz.f157), (153, Go.Proofs.Tryz.f153), (110, Go.Proofs.Tryz.f110), (147, Go.Proofs.Tryz.f147), (114, Go.Proofs.Tryz.f114), (61, Go.Proofs.Tryz.f61), (34, Go.Proofs.Tryz.f34), (152, Go.Proofs.Tryz.f152), (151, Go.Proofs.Tryz.f151), (109, Go.Proofs.Tryz.f109), (176, Go.Proofs.Tryz.f176), (154, Go.Proofs.Tryz.f154), (155, Go.Proofs.Tryz.f155), (111, Go.Proofs.Tryz.f111), (112, Go.Proofs.Tryz.f112), (60, Go.Proofs.Tryz.f60), (19, Go.Proofs.Tryz.f19), (65, Go.Proofs.Tryz.f65), (123, Go.Proofs.Tryz.f123), (64, Go.Proofs.Tryz.f64), (23, Go.Proofs.Tryz.f23), (91, Go.Proofs.Tryz.f91), (36, Go.Proofs.Tryz.f36), (24, Go.Proofs.Tryz.f24), (14, Go.Proofs.Tryz.f14), (53, Go.Proofs.Tryz.f53), (54, Go.Proofs.Tryz.f54), (16, Go.Proofs.Tryz.f16), (55, Go.Proofs.Tryz.f55), (56, Go.Proofs.Tryz.f56), (108, Go.Proofs.Tryz.f108), (107, Go.Proofs.Tryz.f107), (57, Go.Proofs.Tryz.f57), (58, Go.Proofs.Tryz.f58), (59, Go.Proofs.Tryz.f59), (17, Go.Proofs.Tryz.f17), (3, Go.Proofs.Tryz.f3)]
def tmL : List (Nat × (List Sh × List (TypeId × List Sh))) := [(100, ([.bool], [])),
 (101, ([.bool], [])),
 (48, ([.bool], [])),
 (94, ([.bool], [])),
 (41, ([.int .i64], [])),
 (168, ([.bool], [])),
 (99, ([.bool], [])),
 (150, ([.row 0 [.str] 9 16], [])),
 (98, ([.bool], [])),
 (167, ([.bool], [])),
 (166, ([.str, .str, .bool], [])),
 (133, ([.bool], [])),
 (134, ([.bool], [])),
 (135, ([.bool], [])),
 (69, ([.int .i64], [])),
 (42, ([.int .i64], [])),
 (47, ([.bool], [])),
 (102, ([.bool], [])),
 (49, ([.int .i64], [])),
 (13, ([.int .i64], [])),
 (43, ([.int .i64], [])),
 (95, ([.int .i64], [])),
 (148, ([.bool], [])),
 (115, ([.int .i64], [])),
 (96, ([.int .i64], [])),
 (44, ([.int .i64], [])),
 (45, ([.int .i64], [])),
 (149, ([.bool], [])),
 (97, ([.bool], [])),
 (46, ([.int .i64], [])),
 (40, ([.int .i64], [])),
 (12, ([.int .i64], [])),
 (138, ([.row 0 aD.ks 130 32], [])),
 (80, ([.agg [.str, .str, .int .i64, .bool, .int .i64, .int .i64, .str, .int .i64, .row 0 aD.ks 130 32]], [])),
 (81, ([.agg [.int .i64, .row 0 aB.ks 122 128, .row 1 [.int .i64] 3 8, .int .i64]], [])),
 (31, ([.agg [.str, .str, .bool, .int .i64, .int .i64, .int .i64, .int .i64, .row 0 aF.ks 60 32, .row 1 aA.ks 34 112, .int .i64, .row 2 aB.ks 122 128, .row 3 [.int .i64] 3 8, .int .i64, .row 4 [.int .i64] 3 8, .bool, .int .i64, .str, .str, .int .i64, .bool, .int .i64, .int .i64, .str, .int .i64, .row 5 aD.ks 130 32]], [])),
 (163, ([.bool], [])),
 (179, ([.str, .bool], [])),
 (159, ([.str, .bool], [])),
 (193, ([.int .i64], [])),
 (189, ([.int .i64], [])),
 (180, ([.str, .str, .bool], [])),
 (160, ([.str, .str, .bool], [])),
 (139, ([.bool], [])),
 (161, ([.bool], [])),
 (199, ([.int .i64], [])),
 (198, ([.int .i64], [])),
 (190, ([.sl [.str]], [])),
 (181, ([.sl [.str]], [])),
 (162, ([.sl [.str]], [])),
 (126, ([.bool], [])),
 (127, ([.bool], [])),
 (124, ([.str, .str, .bool], [])),
 (125, ([.bool], [(60, aF.shs)])),
 (66, ([.int .i64], [])),
 (164, ([.int .i64], [])),
 (130, ([.int .i64], [])),
 (129, ([.int .i64], [])),
 (128, ([.int .i64, .bool], [])),
 (67, ([.int .i64, .bool], [])),
 (103, ([.row 0 aF.ks 60 32], [])),
 (104, ([.row 0 [.int .i64] 3 8], [])),
 (50, ([.agg [.str, .str, .bool, .int .i64, .int .i64, .int .i64, .int .i64, .row 0 aF.ks 60 32, .row 1 aA.ks 34 112, .int .i64, .row 2 aB.ks 122 128, .row 3 [.int .i64] 3 8, .int .i64, .row 4 [.int .i64] 3 8, .bool, .int .i64, .str, .str, .int .i64, .bool, .int .i64, .int .i64, .str, .int .i64, .row 5 aD.ks 130 32]], [])),
 (68, ([.row 0 aF.ks 60 32], [])),
 (26, ([.agg [.str, .str, .bool, .int .i64, .int .i64, .int .i64, .int .i64, .row 0 aF.ks 60 32, .row 1 aA.ks 34 112, .int .i64, .row 2 aB.ks 122 128, .row 3 [.int .i64] 3 8, .int .i64, .row 4 [.int .i64] 3 8, .bool, .int .i64, .str, .str, .int .i64, .bool, .int .i64, .int .i64, .str, .int .i64, .row 5 aD.ks 130 32], .bool, .int .i64], [])),
 (51, ([aC.sh], [])),
 (106, ([.agg [.str, .str, .int .i64, .bool, .int .i64, .int .i64, .str, .int .i64, .row 0 aD.ks 130 32]], [])),
 (105, ([.row 0 aA.ks 34 112], [])),
 (52, ([.row 0 aA.ks 34 112, .row 1 aA.ks 34 112, .bool], [])),
 (15, ([aC.sh, .bool], [])),
 (113, ([.bool], [])),
 (156, ([.int .i64], [])),
 (169, ([.bool], [])),
 (170, ([.bool], [])),
 (184, ([.bool], [])),
 (171, ([.int .i64], [])),
 (141, ([.int .i64], [])),
 (177, ([.int .i64], [])),
 (191, ([.bool], [])),
 (185, ([.bool], [])),
 (186, ([.bool], [])),
 (175, ([.int .i64, .bool], [])),
 (178, ([.row 0 [.int .i64] 3 8], [])),
 (157, ([.int .i64, .agg [.row 0 [.int .i64] 3 8, .int .i64], .int .i64], [])),
 (153, ([.agg [.str, .str, .int .i64, .bool, .int .i64, .int .i64, .str, .int .i64, .row 0 aD.ks 130 32]], [])),
 (110, ([.agg [.int .i64, .row 0 aB.ks 122 128, .row 1 [.int .i64] 3 8, .int .i64]], [])),
 (147, ([.agg [.int .i64, .int .i64, .bool, .str, .str, .int .i64, .bool, .int .i64, .int .i64, .str, .int .i64, .row 0 aD.ks 130 32, .str, .str, .bool, .int .i64, .int .i64, .int .i64, .bool, .int .i64, .str, .str, .int .i64, .bool, .int .i64, .int .i64, .str, .int .i64, .row 1 aD.ks 130 32, .bool, .int .i64, .row 2 aF.ks 60 32, .row 3 [.str] 9 16, .row 4 [.int .i64] 3 8]], [])),
 (114, ([.agg [.int .i64, .row 0 aB.ks 122 128, .row 1 [.int .i64] 3 8, .int .i64], .agg [.int .i64, .int .i64, .bool, .str, .str, .int .i64, .bool, .int .i64, .int .i64, .str, .int .i64, .row 2 aD.ks 130 32, .str, .str, .bool, .int .i64, .int .i64, .int .i64, .bool, .int .i64, .str, .str, .int .i64, .bool, .int .i64, .int .i64, .str, .int .i64, .row 3 aD.ks 130 32, .bool, .int .i64, .row 4 aF.ks 60 32, .row 5 [.str] 9 16, .row 6 [.int .i64] 3 8], .int .i64], [])),
 (61, ([aC.sh, .row 0 aE.ks 49 416], [])),
 (34, ([aC.sh, .row 0 aE.ks 49 416], [])),
 (152, ([.bool], [(3, [.int .i64])])),
 (151, ([.int .i64], [(3, [.int .i64])])),
 (109, ([.int .i64], [])),
 (176, ([.row 0 [.int .i64] 3 8], [])),
 (154, ([.agg [.row 0 [.int .i64] 3 8, .int .i64], .bool], [])),
 (155, ([.row 0 aB.ks 122 128], [])),
 (111, ([.agg [.int .i64, .row 0 aB.ks 122 128, .row 1 [.int .i64] 3 8, .int .i64]], [])),
 (112, ([.agg [.int .i64, .int .i64, .bool, .str, .str, .int .i64, .bool, .int .i64, .int .i64, .str, .int .i64, .row 0 aD.ks 130 32, .str, .str, .bool, .int .i64, .int .i64, .int .i64, .bool, .int .i64, .str, .str, .int .i64, .bool, .int .i64, .int .i64, .str, .int .i64, .row 1 aD.ks 130 32, .bool, .int .i64, .row 2 aF.ks 60 32, .row 3 [.str] 9 16, .row 4 [.int .i64] 3 8]], [])),
 (60, ([.agg [.int .i64, .row 0 aB.ks 122 128, .row 1 [.int .i64] 3 8, .int .i64], .row 2 aE.ks 49 416, .int .i64], [])),
 (19, ([aC.sh, .row 0 aE.ks 49 416, .int .i64], [])),
 (65, ([.bool], [])),
 (123, ([.int .i64], [])),
 (64, ([.row 0 aA.ks 34 112], [])),
 (23, ([aC.sh], [])),
 (91, ([.row 0 aE.ks 49 416], [])),
 (36, ([aC.sh, .row 0 aE.ks 49 416], [])),
 (24, ([.bool], [])),
 (14, ([.bool], [])),
 (53, ([aC.sh], [])),
 (54, ([.sl aA.ks, .row 0 aA.ks 34 112, .bool], [])),
 (16, ([aC.sh, .bool], [])),
 (55, ([.bool], [])),
 (56, ([.bool], [])),
 (108, ([.bool], [])),
 (107, ([.bool], [])),
 (57, ([.bool], [])),
 (58, ([.bool], [])),
 (59, ([.bool], [])),
 (17, ([.bool], [])),
 (3, ([.bool], []))]
def mvL : List (Nat × Bool) := [(68, true), (178, true), (61, true), (176, true), (155, true), (64, true)]
def naL : List (Nat × List (List (Option (List CK × TypeId × Nat)))) := [(68, [[some (aF.ks, 60, 32)], [], [some (aF.ks, 60, 32)]]), (178, [[some ([.int .i64], 3, 8)], [], [some ([.int .i64], 3, 8)]]), (61, [[], [], [some (aE.ks, 49, 416)]]), (176, [[some ([.int .i64], 3, 8)], [], []]), (155, [[some (aB.ks, 122, 128)], [], []]), (64, [[some (aA.ks, 34, 112)], []])]
def hlL : List (Nat × List (Nat × Hint)) := [(48, [(4, ⟨[(0, .str), (3, .int .i64)], [], []⟩)]),
 (99, [(2, ⟨[(0, .str), (1, .int .u8), (5, .int .i64)], [], []⟩)]),
 (150, [(4, ⟨[(0, .str), (3, .row 3003 [.str] 9 16), (4, .int .i64), (5, .int .i64)], [], []⟩)]),
 (167, [(5, ⟨[(3, .row 3003 [.str] 9 16), (4, .int .i64)], [], []⟩)]),
 (166, [(5, ⟨[(5, .str), (6, .int .i64)], [], []⟩)]),
 (42, [(4, ⟨[(0, .sl aF.ks), (3, .int .i64)], [], []⟩)]),
 (102, [(4, ⟨[(0, .str), (3, .int .i64)], [], []⟩)]),
 (49, [(4, ⟨[(0, .sl aD.ks), (3, .int .i64)], [], []⟩)]),
 (43, [(4, ⟨[(0, .sl aA.ks), (3, .int .i64)], [], []⟩)]),
 (95, [(4, ⟨[(1, .ptr 1000000000 0), (3, .int .i64)], [(27, aJ.shs)], []⟩)]),
 (148, [(2, ⟨[(1, .int .i64), (2, .ptr 1000000000 0), (5, .int .i64)], [(27, aJ.shs)], []⟩)]),
 (115, [(2, ⟨[(0, .sl aB.ks), (1, .int .i64), (5, .int .i64)], [], []⟩)]),
 (44, [(9, ⟨[(1, .ptr 1000000000 0), (4, .int .i64)], [(29, aG.shs)], []⟩)]),
 (149, [(4, ⟨[(0, .sl aD.ks), (1, .sl aD.ks), (5, .int .i64)], [], []⟩)]),
 (40, [(2, ⟨[(0, .sl [.int .i64]), (3, .int .i64)], [], []⟩)]),
 (139, [(4, ⟨[(15, .it 4000)], [], []⟩)]),
 (161, [(5, ⟨[(3, .int .i64), (15, .it 4000)], [], []⟩)]),
 (198, [(6, ⟨[(0, .str), (1, .str), (5, .int .i64)], [], []⟩)]),
 (190, [(11, ⟨[(0, .str), (1, .str), (2, .int .i64), (3, .int .i64), (9, .row 3009 [.str] 9 16), (10, .int .i64)], [], []⟩)]),
 (126, [(6, ⟨[(3, .sl [.str]), (4, .bool), (15, .sl [.str]), (16, .int .i64), (17, .int .i64)], [], []⟩), (9, ⟨[(3, .sl [.str]), (4, .bool), (5, .int .i64), (6, .str), (15, .sl [.str]), (16, .int .i64), (17, .int .i64), (23, .it 4000)], [], []⟩)]),
 (128, [(3, ⟨[(0, .sl aF.ks), (1, .str), (2, .fn 129 [] []), (8, .int .i64), (9, .int .i64), (10, .int .i64)], [], []⟩)]),
 (50, [(4, ⟨[(1, .ptr 1000000000 0), (2, .ptr 1000000001 0), (3, .row 3003 aA.ks 34 112), (18, .sl aA.ks), (19, .int .i64), (20, .int .i64)], [(38, [.str, .str, .bool, .int .i64, .int .i64, .int .i64, .int .i64, .row 50007 aF.ks 60 32, .sl aA.ks, .int .i64, .sl aB.ks, .sl [.int .i64], .int .i64, .sl [.int .i64], .bool, .int .i64, .str, .str, .int .i64, .bool, .int .i64, .int .i64, .str, .int .i64, .sl aD.ks]), (38, aC.shs)], []⟩), (11, ⟨[(1, .ptr 1000000000 0), (2, .ptr 1000000001 0), (6, .row 3006 aB.ks 122 128), (39, .sl aB.ks), (40, .int .i64), (41, .int .i64)], [(38, [.str, .str, .bool, .int .i64, .int .i64, .int .i64, .int .i64, .row 50007 aF.ks 60 32, .row 50008 aA.ks 34 112, .int .i64, .sl aB.ks, .sl [.int .i64], .int .i64, .sl [.int .i64], .bool, .int .i64, .str, .str, .int .i64, .bool, .int .i64, .int .i64, .str, .int .i64, .sl aD.ks]), (38, aC.shs)], []⟩)]),
 (105, [(3, ⟨[(5, .row 3005 aA.ks 34 112), (13, .sl aA.ks), (14, .int .i64), (15, .int .i64)], [], []⟩)]),
 (169, [(4, ⟨[(9, .it 4000)], [], []⟩)]),
 (184, [(4, ⟨[(0, .str), (3, .int .i64)], [], []⟩)]),
 (171, [(4, ⟨[(0, .sl aD.ks), (8, .sl aD.ks), (9, .int .i64), (10, .int .i64)], [], []⟩)]),
 (175, [(3, ⟨[(0, .sl [.int .i64]), (1, .int .i64), (6, .int .i64), (7, .int .i64), (8, .int .i64)], [], []⟩)]),
 (157, [(5, ⟨[(1, .ptr 1000000000 0), (3, .ptr 1000000001 0), (5, .int .i64), (18, .int .i64), (19, .int .i64)], [(27, aJ.shs), (27, aJ.shs)], []⟩)]),
 (110, [(3, ⟨[(1, .ptr 1000000000 0), (2, .ptr 1000000001 0), (3, .row 3003 aB.ks 122 128), (12, .sl aB.ks), (13, .int .i64), (14, .int .i64)], [(29, aG.shs), (29, aG.shs)], []⟩)]),
 (61, [(1, ⟨[(1, .int .i64), (2, .row 3002 aE.ks 49 416), (3, .ptr 1000000000 0), (6, .ptr 1000000001 0)], [(38, aC.shs), (38, aC.shs)], []⟩)]),
 (151, [(2, ⟨[(0, .sl aB.ks), (1, .fn 152 [] [.ptr 2000000000 0]), (7, .int .i64), (8, .int .i64)], [], [(3, [.int .i64])]⟩)]),
 (123, [(2, ⟨[(0, .sl aA.ks), (1, .fn 65 [] []), (7, .int .i64), (8, .int .i64)], [], []⟩)]),
 (64, [(5, ⟨[(0, .row 3000 aA.ks 34 112), (1, .fn 65 [] []), (5, .int .i64), (6, .int .i64)], [], []⟩)]),
 (91, [(3, ⟨[(1, .ptr 1000000000 0), (3, .row 3003 aE.ks 49 416), (9, .int .i64), (10, .int .i64)], [(29, aG.shs)], []⟩)]),
 (55, [(4, ⟨[(0, .sl aF.ks), (1, .sl aF.ks), (5, .int .i64)], [], []⟩)]),
 (56, [(4, ⟨[(0, .sl aA.ks), (1, .sl aA.ks), (5, .int .i64)], [], []⟩)]),
 (108, [(4, ⟨[(0, .sl [.int .i64]), (1, .sl [.int .i64]), (5, .int .i64)], [], []⟩)]),
 (57, [(4, ⟨[(2, .ptr 1000000000 0), (3, .ptr 1000000001 0), (5, .int .i64)], [(29, aG.shs), (29, aG.shs)], []⟩)])]
def hrL : List (Nat × List (Nat × Hint)) := [(48, [(3, ⟨[(0, .str)], [], []⟩)]),
 (41, [(3, ⟨[(1, .ptr 1000000000 0)], [(38, aC.shs)], []⟩), (5, ⟨[(1, .ptr 1000000000 0)], [(38, aC.shs)], []⟩)]),
 (167, [(9, ⟨[(3, .row 3003 [.str] 9 16), (4, .int .i64)], [], []⟩)]),
 (166, [(7, ⟨[(5, .str), (6, .int .i64)], [], []⟩), (9, ⟨[(5, .str), (6, .int .i64)], [], []⟩)]),
 (102, [(3, ⟨[(0, .str)], [], []⟩)]),
 (13, [(7, ⟨[(1, .ptr 1000000000 0)], [(34, aA.shs)], []⟩), (9, ⟨[(1, .ptr 1000000000 0)], [(34, aA.shs)], []⟩), (11, ⟨[(1, .ptr 1000000000 0)], [(34, aA.shs)], []⟩)]),
 (96, [(4, ⟨[(5, .ptr 1000000000 0)], [(122, aB.shs)], []⟩)]),
 (44, [(3, ⟨[(1, .ptr 1000000000 0)], [(29, aG.shs)], []⟩)]),
 (139, [(3, ⟨[(0, .str)], [], []⟩), (7, ⟨[(3, .int .i64), (4, .int .i32), (5, .bool), (15, .it 4000)], [], []⟩)]),
 (161, [(3, ⟨[(0, .str)], [], []⟩)]),
 (190, [(7, ⟨[(0, .str), (1, .str), (2, .int .i64), (3, .int .i64)], [], []⟩), (17, ⟨[(0, .str), (9, .row 3009 [.str] 9 16), (10, .int .i64)], [], []⟩)]),
 (26, [(7, ⟨[(2, .ptr 1000000000 0), (3, .ptr 1000000001 0), (4, .ptr 1000000002 0), (8, .int .i64), (9, .bool)], [(38, aC.shs), (60, aF.shs), (38, aC.shs)], []⟩)]),
 (52, [(6, ⟨[(5, .ptr 1000000000 0), (11, .row 3011 aA.ks 34 112)], [(34, aA.shs)], []⟩)]),
 (15, [(4, ⟨[(2, .int .i64), (3, .int .i64), (4, .ptr 1000000000 0), (5, .ptr 1000000001 0), (8, .ptr 1000000002 0), (10, .ptr 1000000003 0)], [(38, aC.shs), (34, aA.shs), (38, aC.shs), (38, [.str, .str, .bool, .int .i64, .int .i64, .int .i64, .int .i64, .row 50307 aF.ks 60 32, .row 50308 aA.ks 34 112, .int .i64, .row 50310 aB.ks 122 128, .row 50311 [.int .i64] 3 8, .int .i64, .row 50313 [.int .i64] 3 8, .bool, .int .i64, .str, .str, .int .i64, .bool, .int .i64, .int .i64, .str, .int .i64, .row 50324 aD.ks 130 32])], []⟩)]),
 (184, [(3, ⟨[(0, .str)], [], []⟩)]),
 (60, [(5, ⟨[(2, .ptr 1000000000 0), (3, .ptr 1000000001 0), (4, .ptr 1000000002 0), (7, .int .i64), (8, .ptr 1000000003 0)], [(29, aG.shs), (49, aE.shs), (29, aG.shs), (122, aB.shs)], []⟩)]),
 (54, [(5, ⟨[(0, .sl aA.ks), (3, .int .i64), (5, .ptr 1000000000 0)], [(34, aA.shs)], []⟩)]),
 (16, [(3, ⟨[(2, .int .i64), (3, .int .i64), (4, .ptr 1000000000 0), (5, .ptr 1000000001 0), (8, .ptr 1000000002 0)], [(38, aC.shs), (34, aA.shs), (38, aC.shs)], []⟩), (5, ⟨[(2, .int .i64), (3, .int .i64), (4, .ptr 1000000000 0), (5, .ptr 1000000001 0), (8, .ptr 1000000002 0)], [(38, aC.shs), (34, aA.shs), (38, aC.shs)], []⟩)]),
 (57, [(3, ⟨[(2, .ptr 1000000000 0), (3, .ptr 1000000001 0)], [(29, aG.shs), (29, aG.shs)], []⟩)]),
 (3, [(3, ⟨[(2, .int .i64), (3, .int .i64), (4, .ptr 1000000000 0), (5, .ptr 1000000001 0)], [(38, aC.shs), (34, aA.shs)], []⟩)])]
def eqL : List (Nat × List CK) := [(130, [.str, .str])]
def prL : List (Nat × Prim) := [(182, .cmpString), (201, .indexByte), (205, .countByte)]
def lbL : List (Nat × LibK) := [(68, .insert aF.ks 60 32), (178, .insert [.int .i64] 3 8), (176, .spec (ahd [.int .i64] 3 8)), (155, .spec (ahd aB.ks 122 128))]
def SE : Env := { fn := assoc fnL, ty := assoc tyL, tm := assoc tmL, mv := fun f => match assoc mvL f with | some b => b | none => false, eqt := assoc eqL, pv := fun _ => none, hl := fun f r => match assoc hlL f with | some l => assoc l r | none => none, hr := fun f r => match assoc hrL f with | some l => assoc l r | none => none, prim := assoc prL, lib := assoc lbL, na := fun f => match assoc naL f with | some l => l | none => [], cut := fun d t => (Nat.beq d 41 && Nat.beq t 23) }
def g9 : (Bool) → Out := fun r => .ret [.d (.bool r)] [] []
theorem sX : ∀ y z, g9 y = g9 z → y = z := fun y z h => congrArg (fun o => aX (avD (aI 0 (Out.res o)))) h
def hR : (Bool) → Out := fun r => .ret [.d (.bool r)] [] []
theorem abU : ∀ y z, hR y = hR z → y = z := fun y z h => congrArg (fun o => aX (avD (aI 0 (Out.res o)))) h
def cE : (Bool) → Out := fun r => .ret [.d (.bool r)] [] []
theorem mN : ∀ y z, cE y = cE z → y = z := fun y z h => congrArg (fun o => aX (avD (aI 0 (Out.res o)))) h
def jT : (Bool) → Out := fun r => .ret [.d (.bool r)] [] []
theorem qX : ∀ y z, jT y = jT z → y = z := fun y z h => congrArg (fun o => aX (avD (aI 0 (Out.res o)))) h
def eL : (Int) → Out := fun r => .ret [.d (.int .i64 r)] [] []
theorem acJ : ∀ y z, eL y = eL z → y = z := fun y z h => congrArg (fun o => aL (avD (aI 0 (Out.res o)))) h
def dK : (Bool) → Out := fun r => .ret [.d (.bool r)] [] []
theorem oO : ∀ y z, dK y = dK z → y = z := fun y z h => congrArg (fun o => aX (avD (aI 0 (Out.res o)))) h
def cR : (Bool) → Out := fun r => .ret [.d (.bool r)] [] []
theorem kN : ∀ y z, cR y = cR z → y = z := fun y z h => congrArg (fun o => aX (avD (aI 0 (Out.res o)))) h
def cJ : ((List Str)) → Out := fun r => .ret [.row 0] [] [⟨[.str], 9, 16, (List.map bF r)⟩]
theorem rY : ∀ y z, cJ y = cJ z → y = z := fun y z h => map_inj zX (congrArg (fun o => bZ 0 (Out.rws o)) h)
def c7 : (Bool) → Out := fun r => .ret [.d (.bool r)] [] []
theorem tB : ∀ y z, c7 y = c7 z → y = z := fun y z h => congrArg (fun o => aX (avD (aI 0 (Out.res o)))) h
def cC : (Bool) → Out := fun r => .ret [.d (.bool r)] [] []
theorem sI : ∀ y z, cC y = cC z → y = z := fun y z h => congrArg (fun o => aX (avD (aI 0 (Out.res o)))) h
def cB : (Str × Str × Bool) → Out := fun r => .ret [.d (.str r.1), .d (.str r.2.1), .d (.bool r.2.2)] [] []
theorem sG : ∀ y z, cB y = cB z → y = z := fun y z h => Prod.ext (congrArg (fun o => aV (avD (aI 0 (Out.res o)))) h) (Prod.ext (congrArg (fun o => aV (avD (aI 1 (Out.res o)))) h) (congrArg (fun o => aX (avD (aI 2 (Out.res o)))) h))
def gD : (Bool) → Out := fun r => .ret [.d (.bool r)] [] []
theorem aaS : ∀ y z, gD y = gD z → y = z := fun y z h => congrArg (fun o => aX (avD (aI 0 (Out.res o)))) h
def g8 : (Bool) → Out := fun r => .ret [.d (.bool r)] [] []
theorem abT : ∀ y z, g8 y = g8 z → y = z := fun y z h => congrArg (fun o => aX (avD (aI 0 (Out.res o)))) h
def gE : (Bool) → Out := fun r => .ret [.d (.bool r)] [] []
theorem aaV : ∀ y z, gE y = gE z → y = z := fun y z h => congrArg (fun o => aX (avD (aI 0 (Out.res o)))) h
def iZ : (Int) → Out := fun r => .ret [.d (.int .i64 r)] [] []
theorem adw : ∀ y z, iZ y = iZ z → y = z := fun y z h => congrArg (fun o => aL (avD (aI 0 (Out.res o)))) h
def fP : (Int) → Out := fun r => .ret [.d (.int .i64 r)] [] []
theorem acH : ∀ y z, fP y = fP z → y = z := fun y z h => congrArg (fun o => aL (avD (aI 0 (Out.res o)))) h
def hH : (Bool) → Out := fun r => .ret [.d (.bool r)] [] []
theorem abr : ∀ y z, hH y = hH z → y = z := fun y z h => congrArg (fun o => aX (avD (aI 0 (Out.res o)))) h
def eZ : (Bool) → Out := fun r => .ret [.d (.bool r)] [] []
theorem adu : ∀ y z, eZ y = eZ z → y = z := fun y z h => congrArg (fun o => aX (avD (aI 0 (Out.res o)))) h
def fF : (Int) → Out := fun r => .ret [.d (.int .i64 r)] [] []
theorem aby : ∀ y z, fF y = fF z → y = z := fun y z h => congrArg (fun o => aL (avD (aI 0 (Out.res o)))) h
def bN : (Int) → Out := fun r => .ret [.d (.int .i64 r)] [] []
theorem lW : ∀ y z, bN y = bN z → y = z := fun y z h => congrArg (fun o => aL (avD (aI 0 (Out.res o)))) h
def fE : (Int) → Out := fun r => .ret [.d (.int .i64 r)] [] []
theorem abA : ∀ y z, fE y = fE z → y = z := fun y z h => congrArg (fun o => aL (avD (aI 0 (Out.res o)))) h
def cZ : (Int) → Out := fun r => .ret [.d (.int .i64 r)] [] []
theorem tE : ∀ y z, cZ y = cZ z → y = z := fun y z h => congrArg (fun o => aL (avD (aI 0 (Out.res o)))) h
def gU : (Bool) → Out := fun r => .ret [.d (.bool r)] [] []
theorem ado : ∀ y z, gU y = gU z → y = z := fun y z h => congrArg (fun o => aX (avD (aI 0 (Out.res o)))) h
def iA : (Int) → Out := fun r => .ret [.d (.int .i64 r)] [] []
theorem adC : ∀ y z, iA y = iA z → y = z := fun y z h => congrArg (fun o => aL (avD (aI 0 (Out.res o)))) h
def fV : (Int) → Out := fun r => .ret [.d (.int .i64 r)] [] []
theorem acY : ∀ y z, fV y = fV z → y = z := fun y z h => congrArg (fun o => aL (avD (aI 0 (Out.res o)))) h
def dY : (Int) → Out := fun r => .ret [.d (.int .i64 r)] [] []
theorem abf : ∀ y z, dY y = dY z → y = z := fun y z h => congrArg (fun o => aL (avD (aI 0 (Out.res o)))) h
def hI : (Int) → Out := fun r => .ret [.d (.int .i64 r)] [] []
theorem abu : ∀ y z, hI y = hI z → y = z := fun y z h => congrArg (fun o => aL (avD (aI 0 (Out.res o)))) h
def dH : (Bool) → Out := fun r => .ret [.d (.bool r)] [] []
theorem yD : ∀ y z, dH y = dH z → y = z := fun y z h => congrArg (fun o => aX (avD (aI 0 (Out.res o)))) h
def cD : (Bool) → Out := fun r => .ret [.d (.bool r)] [] []
theorem mT : ∀ y z, cD y = cD z → y = z := fun y z h => congrArg (fun o => aX (avD (aI 0 (Out.res o)))) h
def hY : (Int) → Out := fun r => .ret [.d (.int .i64 r)] [] []
theorem abx : ∀ y z, hY y = hY z → y = z := fun y z h => congrArg (fun o => aL (avD (aI 0 (Out.res o)))) h
def eB : (Int) → Out := fun r => .ret [.d (.int .i64 r)] [] []
theorem abO : ∀ y z, eB y = eB z → y = z := fun y z h => congrArg (fun o => aL (avD (aI 0 (Out.res o)))) h
def hQ : (Int) → Out := fun r => .ret [.d (.int .i64 r)] [] []
theorem abw : ∀ y z, hQ y = hQ z → y = z := fun y z h => congrArg (fun o => aL (avD (aI 0 (Out.res o)))) h
def bP : ((List aD)) → Out := fun r => .ret [.row 0] [] [⟨aD.ks, 130, 32, (List.map aD.enc r)⟩]
theorem k8 : ∀ y z, bP y = bP z → y = z := fun y z h => map_inj aD.inj (congrArg (fun o => bZ 0 (Out.rws o)) h)
def cN : (aA) → Out := fun r => .ret [.agg [.d (.str r.Topic), .d (.str r.Payload), .d (.int .i64 r.Level), .d (.bool r.Retain), .d (.int .i64 r.Priority), .d (.int .i64 r.Expires), .d (.str r.From), .d (.int .i64 r.Seq), .row 0]] [] [⟨aD.ks, 130, 32, (List.map aD.enc r.Props)⟩]
theorem jX : ∀ y z, cN y = cN z → y = z := fun y z h => aA.inj (congrArg (fun o => [avD (aI 0 (cellsOf (aI 0 (Out.res o)))), avD (aI 1 (cellsOf (aI 0 (Out.res o)))), avD (aI 2 (cellsOf (aI 0 (Out.res o)))), avD (aI 3 (cellsOf (aI 0 (Out.res o)))), avD (aI 4 (cellsOf (aI 0 (Out.res o)))), avD (aI 5 (cellsOf (aI 0 (Out.res o)))), avD (aI 6 (cellsOf (aI 0 (Out.res o)))), avD (aI 7 (cellsOf (aI 0 (Out.res o)))), D.sl aD.ks (bZ 0 (Out.rws o))]) h)
def kW : (aG) → Out := fun r => .ret [.agg [.d (.int .i64 r.Limit), .row 0, .row 1, .d (.int .i64 r.Pool.Last)]] [] [⟨aB.ks, 122, 128, (List.map aB.enc r.Items)⟩, ⟨[.int .i64], 3, 8, (List.map (encI .i64) r.Pool.Used)⟩]
theorem afG : ∀ y z, kW y = kW z → y = z := fun y z h => aG.inj (congrArg (fun o => [avD (aI 0 (cellsOf (aI 0 (Out.res o)))), D.sl aB.ks (bZ 0 (Out.rws o)), D.sl [.int .i64] (bZ 1 (Out.rws o)), avD (aI 3 (cellsOf (aI 0 (Out.res o))))]) h)
def lP : (aC) → Out := fun r => .ret [.agg [.d (.str r.Client), .d (.str r.User), .d (.bool r.Online), .d (.int .i64 r.Conn), .d (.int .i64 r.Expiry), .d (.int .i64 r.Until), .d (.int .i64 r.Dropped), .row 0, .row 1, .d (.int .i64 r.Out.Limit), .row 2, .row 3, .d (.int .i64 r.Out.Pool.Last), .row 4, .d (.bool r.Will.Set), .d (.int .i64 r.Will.Delay), .d (.str r.Will.Message.Topic), .d (.str r.Will.Message.Payload), .d (.int .i64 r.Will.Message.Level), .d (.bool r.Will.Message.Retain), .d (.int .i64 r.Will.Message.Priority), .d (.int .i64 r.Will.Message.Expires), .d (.str r.Will.Message.From), .d (.int .i64 r.Will.Message.Seq), .row 5]] [] [⟨aF.ks, 60, 32, (List.map aF.enc r.Subs)⟩, ⟨aA.ks, 34, 112, (List.map aA.enc r.Queue)⟩, ⟨aB.ks, 122, 128, (List.map aB.enc r.Out.Items)⟩, ⟨[.int .i64], 3, 8, (List.map (encI .i64) r.Out.Pool.Used)⟩, ⟨[.int .i64], 3, 8, (List.map (encI .i64) r.In.IDs)⟩, ⟨aD.ks, 130, 32, (List.map aD.enc r.Will.Message.Props)⟩]
theorem agz : ∀ y z, lP y = lP z → y = z := fun y z h => aC.inj (congrArg (fun o => [avD (aI 0 (cellsOf (aI 0 (Out.res o)))), avD (aI 1 (cellsOf (aI 0 (Out.res o)))), avD (aI 2 (cellsOf (aI 0 (Out.res o)))), avD (aI 3 (cellsOf (aI 0 (Out.res o)))), avD (aI 4 (cellsOf (aI 0 (Out.res o)))), avD (aI 5 (cellsOf (aI 0 (Out.res o)))), avD (aI 6 (cellsOf (aI 0 (Out.res o)))), D.sl aF.ks (bZ 0 (Out.rws o)), D.sl aA.ks (bZ 1 (Out.rws o)), avD (aI 9 (cellsOf (aI 0 (Out.res o)))), D.sl aB.ks (bZ 2 (Out.rws o)), D.sl [.int .i64] (bZ 3 (Out.rws o)), avD (aI 12 (cellsOf (aI 0 (Out.res o)))), D.sl [.int .i64] (bZ 4 (Out.rws o)), avD (aI 14 (cellsOf (aI 0 (Out.res o)))), avD (aI 15 (cellsOf (aI 0 (Out.res o)))), avD (aI 16 (cellsOf (aI 0 (Out.res o)))), avD (aI 17 (cellsOf (aI 0 (Out.res o)))), avD (aI 18 (cellsOf (aI 0 (Out.res o)))), avD (aI 19 (cellsOf (aI 0 (Out.res o)))), avD (aI 20 (cellsOf (aI 0 (Out.res o)))), avD (aI 21 (cellsOf (aI 0 (Out.res o)))), avD (aI 22 (cellsOf (aI 0 (Out.res o)))), avD (aI 23 (cellsOf (aI 0 (Out.res o)))), D.sl aD.ks (bZ 5 (Out.rws o))]) h)
def cS : (Bool) → Out := fun r => .ret [.d (.bool r)] [] []
theorem qF : ∀ y z, cS y = cS z → y = z := fun y z h => congrArg (fun o => aX (avD (aI 0 (Out.res o)))) h
def eP : (Str × Bool) → Out := fun r => .ret [.d (.str r.1), .d (.bool r.2)] [] []
theorem yG : ∀ y z, eP y = eP z → y = z := fun y z h => Prod.ext (congrArg (fun o => aV (avD (aI 0 (Out.res o)))) h) (congrArg (fun o => aX (avD (aI 1 (Out.res o)))) h)
def g6 : (Str × Bool) → Out := fun r => .ret [.d (.str r.1), .d (.bool r.2)] [] []
theorem ab1 : ∀ y z, g6 y = g6 z → y = z := fun y z h => Prod.ext (congrArg (fun o => aV (avD (aI 0 (Out.res o)))) h) (congrArg (fun o => aX (avD (aI 1 (Out.res o)))) h)
def eR : (Int) → Out := fun r => .ret [.d (.int .i64 r)] [] []
theorem yB : ∀ y z, eR y = eR z → y = z := fun y z h => congrArg (fun o => aL (avD (aI 0 (Out.res o)))) h
def eD : (Int) → Out := fun r => .ret [.d (.int .i64 r)] [] []
theorem tL : ∀ y z, eD y = eD z → y = z := fun y z h => congrArg (fun o => aL (avD (aI 0 (Out.res o)))) h
def jA : (Str × Str × Bool) → Out := fun r => .ret [.d (.str r.1), .d (.str r.2.1), .d (.bool r.2.2)] [] []
theorem adr : ∀ y z, jA y = jA z → y = z := fun y z h => Prod.ext (congrArg (fun o => aV (avD (aI 0 (Out.res o)))) h) (Prod.ext (congrArg (fun o => aV (avD (aI 1 (Out.res o)))) h) (congrArg (fun o => aX (avD (aI 2 (Out.res o)))) h))
def lT : (Str × Str × Bool) → Out := fun r => .ret [.d (.str r.1), .d (.str r.2.1), .d (.bool r.2.2)] [] []
theorem af7 : ∀ y z, lT y = lT z → y = z := fun y z h => Prod.ext (congrArg (fun o => aV (avD (aI 0 (Out.res o)))) h) (Prod.ext (congrArg (fun o => aV (avD (aI 1 (Out.res o)))) h) (congrArg (fun o => aX (avD (aI 2 (Out.res o)))) h))
def eI : (Bool) → Out := fun r => .ret [.d (.bool r)] [] []
theorem abd : ∀ y z, eI y = eI z → y = z := fun y z h => congrArg (fun o => aX (avD (aI 0 (Out.res o)))) h
def fH : (Bool) → Out := fun r => .ret [.d (.bool r)] [] []
theorem aax : ∀ y z, fH y = fH z → y = z := fun y z h => congrArg (fun o => aX (avD (aI 0 (Out.res o)))) h
def gH : (Int) → Out := fun r => .ret [.d (.int .i64 r)] [] []
theorem xQ : ∀ y z, gH y = gH z → y = z := fun y z h => congrArg (fun o => aL (avD (aI 0 (Out.res o)))) h
def iQ : (Int) → Out := fun r => .ret [.d (.int .i64 r)] [] []
theorem aeZ : ∀ y z, iQ y = iQ z → y = z := fun y z h => congrArg (fun o => aL (avD (aI 0 (Out.res o)))) h
def cW : ((List Str)) → Out := fun r => .ret [.d (.sl [.str] (List.map bF r))] [] []
theorem acS : ∀ y z, cW y = cW z → y = z := fun y z h => map_inj zX (congrArg (fun o => dSl (avD (aI 0 (Out.res o)))) h)
def kD : ((List Str)) → Out := fun r => .ret [.d (.sl [.str] (List.map bF r))] [] []
theorem aeV : ∀ y z, kD y = kD z → y = z := fun y z h => map_inj zX (congrArg (fun o => dSl (avD (aI 0 (Out.res o)))) h)
def k7 : ((List Str)) → Out := fun r => .ret [.d (.sl [.str] (List.map bF r))] [] []
theorem afL : ∀ y z, k7 y = k7 z → y = z := fun y z h => map_inj zX (congrArg (fun o => dSl (avD (aI 0 (Out.res o)))) h)
def dO : (Bool) → Out := fun r => .ret [.d (.bool r)] [] []
theorem aae : ∀ y z, dO y = dO z → y = z := fun y z h => congrArg (fun o => aX (avD (aI 0 (Out.res o)))) h
def dZ : (Bool) → Out := fun r => .ret [.d (.bool r)] [] []
theorem s9 : ∀ y z, dZ y = dZ z → y = z := fun y z h => congrArg (fun o => aX (avD (aI 0 (Out.res o)))) h
def kX : (Str × Str × Bool) → Out := fun r => .ret [.d (.str r.1), .d (.str r.2.1), .d (.bool r.2.2)] [] []
theorem afC : ∀ y z, kX y = kX z → y = z := fun y z h => Prod.ext (congrArg (fun o => aV (avD (aI 0 (Out.res o)))) h) (Prod.ext (congrArg (fun o => aV (avD (aI 1 (Out.res o)))) h) (congrArg (fun o => aX (avD (aI 2 (Out.res o)))) h))
def gB : (Bool × aF) → Out := fun r => .ret [.d (.bool r.1)] [⟨60, (aF.avs r.2)⟩] []
theorem aa8 : ∀ y z, gB y = gB z → y = z := fun y z h => Prod.ext (congrArg (fun o => aX (avD (aI 0 (Out.res o)))) h) (aF.inj (congrArg (fun o => List.map avD (alk 0 (Out.bxs o))) h))
def iM : (Int) → Out := fun r => .ret [.d (.int .i64 r)] [] []
theorem ab9 : ∀ y z, iM y = iM z → y = z := fun y z h => congrArg (fun o => aL (avD (aI 0 (Out.res o)))) h
def eS : (Int) → Out := fun r => .ret [.d (.int .i64 r)] [] []
theorem xT : ∀ y z, eS y = eS z → y = z := fun y z h => congrArg (fun o => aL (avD (aI 0 (Out.res o)))) h
def iY : (Int) → Out := fun r => .ret [.d (.int .i64 r)] [] []
theorem adf : ∀ y z, iY y = iY z → y = z := fun y z h => congrArg (fun o => aL (avD (aI 0 (Out.res o)))) h
def jN : (Int) → Out := fun r => .ret [.d (.int .i64 r)] [] []
theorem wZ : ∀ y z, jN y = jN z → y = z := fun y z h => congrArg (fun o => aL (avD (aI 0 (Out.res o)))) h
def bH : (Int × Bool) → Out := fun r => .ret [.d (.int .i64 r.1), .d (.bool r.2)] [] []
theorem lM : ∀ y z, bH y = bH z → y = z := fun y z h => Prod.ext (congrArg (fun o => aL (avD (aI 0 (Out.res o)))) h) (congrArg (fun o => aX (avD (aI 1 (Out.res o)))) h)
def kZ : (Int × Bool) → Out := fun r => .ret [.d (.int .i64 r.1), .d (.bool r.2)] [] []
theorem afH : ∀ y z, kZ y = kZ z → y = z := fun y z h => Prod.ext (congrArg (fun o => aL (avD (aI 0 (Out.res o)))) h) (congrArg (fun o => aX (avD (aI 1 (Out.res o)))) h)
def cI : ((List aF)) → Out := fun r => .ret [.row 0] [] [⟨aF.ks, 60, 32, (List.map aF.enc r)⟩]
theorem rO : ∀ y z, cI y = cI z → y = z := fun y z h => map_inj aF.inj (congrArg (fun o => bZ 0 (Out.rws o)) h)
def bL : ((List Int)) → Out := fun r => .ret [.row 0] [] [⟨[.int .i64], 3, 8, (List.map (encI .i64) r)⟩]
theorem fK : ∀ y z, bL y = bL z → y = z := fun y z h => map_inj (vI _) (congrArg (fun o => bZ 0 (Out.rws o)) h)
def bS : (aC) → Out := fun r => .ret [.agg [.d (.str r.Client), .d (.str r.User), .d (.bool r.Online), .d (.int .i64 r.Conn), .d (.int .i64 r.Expiry), .d (.int .i64 r.Until), .d (.int .i64 r.Dropped), .row 0, .row 1, .d (.int .i64 r.Out.Limit), .row 2, .row 3, .d (.int .i64 r.Out.Pool.Last), .row 4, .d (.bool r.Will.Set), .d (.int .i64 r.Will.Delay), .d (.str r.Will.Message.Topic), .d (.str r.Will.Message.Payload), .d (.int .i64 r.Will.Message.Level), .d (.bool r.Will.Message.Retain), .d (.int .i64 r.Will.Message.Priority), .d (.int .i64 r.Will.Message.Expires), .d (.str r.Will.Message.From), .d (.int .i64 r.Will.Message.Seq), .row 5]] [] [⟨aF.ks, 60, 32, (List.map aF.enc r.Subs)⟩, ⟨aA.ks, 34, 112, (List.map aA.enc r.Queue)⟩, ⟨aB.ks, 122, 128, (List.map aB.enc r.Out.Items)⟩, ⟨[.int .i64], 3, 8, (List.map (encI .i64) r.Out.Pool.Used)⟩, ⟨[.int .i64], 3, 8, (List.map (encI .i64) r.In.IDs)⟩, ⟨aD.ks, 130, 32, (List.map aD.enc r.Will.Message.Props)⟩]
theorem iT : ∀ y z, bS y = bS z → y = z := fun y z h => aC.inj (congrArg (fun o => [avD (aI 0 (cellsOf (aI 0 (Out.res o)))), avD (aI 1 (cellsOf (aI 0 (Out.res o)))), avD (aI 2 (cellsOf (aI 0 (Out.res o)))), avD (aI 3 (cellsOf (aI 0 (Out.res o)))), avD (aI 4 (cellsOf (aI 0 (Out.res o)))), avD (aI 5 (cellsOf (aI 0 (Out.res o)))), avD (aI 6 (cellsOf (aI 0 (Out.res o)))), D.sl aF.ks (bZ 0 (Out.rws o)), D.sl aA.ks (bZ 1 (Out.rws o)), avD (aI 9 (cellsOf (aI 0 (Out.res o)))), D.sl aB.ks (bZ 2 (Out.rws o)), D.sl [.int .i64] (bZ 3 (Out.rws o)), avD (aI 12 (cellsOf (aI 0 (Out.res o)))), D.sl [.int .i64] (bZ 4 (Out.rws o)), avD (aI 14 (cellsOf (aI 0 (Out.res o)))), avD (aI 15 (cellsOf (aI 0 (Out.res o)))), avD (aI 16 (cellsOf (aI 0 (Out.res o)))), avD (aI 17 (cellsOf (aI 0 (Out.res o)))), avD (aI 18 (cellsOf (aI 0 (Out.res o)))), avD (aI 19 (cellsOf (aI 0 (Out.res o)))), avD (aI 20 (cellsOf (aI 0 (Out.res o)))), avD (aI 21 (cellsOf (aI 0 (Out.res o)))), avD (aI 22 (cellsOf (aI 0 (Out.res o)))), avD (aI 23 (cellsOf (aI 0 (Out.res o)))), D.sl aD.ks (bZ 5 (Out.rws o))]) h)
def cF : ((List aF)) → Out := fun r => .ret [.row 0] [] [⟨aF.ks, 60, 32, (List.map aF.enc r)⟩]
theorem qP : ∀ y z, cF y = cF z → y = z := fun y z h => map_inj aF.inj (congrArg (fun o => bZ 0 (Out.rws o)) h)
def dW : (aC × Bool × Int) → Out := fun r => .ret [.agg [.d (.str r.1.Client), .d (.str r.1.User), .d (.bool r.1.Online), .d (.int .i64 r.1.Conn), .d (.int .i64 r.1.Expiry), .d (.int .i64 r.1.Until), .d (.int .i64 r.1.Dropped), .row 0, .row 1, .d (.int .i64 r.1.Out.Limit), .row 2, .row 3, .d (.int .i64 r.1.Out.Pool.Last), .row 4, .d (.bool r.1.Will.Set), .d (.int .i64 r.1.Will.Delay), .d (.str r.1.Will.Message.Topic), .d (.str r.1.Will.Message.Payload), .d (.int .i64 r.1.Will.Message.Level), .d (.bool r.1.Will.Message.Retain), .d (.int .i64 r.1.Will.Message.Priority), .d (.int .i64 r.1.Will.Message.Expires), .d (.str r.1.Will.Message.From), .d (.int .i64 r.1.Will.Message.Seq), .row 5], .d (.bool r.2.1), .d (.int .i64 r.2.2)] [] [⟨aF.ks, 60, 32, (List.map aF.enc r.1.Subs)⟩, ⟨aA.ks, 34, 112, (List.map aA.enc r.1.Queue)⟩, ⟨aB.ks, 122, 128, (List.map aB.enc r.1.Out.Items)⟩, ⟨[.int .i64], 3, 8, (List.map (encI .i64) r.1.Out.Pool.Used)⟩, ⟨[.int .i64], 3, 8, (List.map (encI .i64) r.1.In.IDs)⟩, ⟨aD.ks, 130, 32, (List.map aD.enc r.1.Will.Message.Props)⟩]
theorem ab0 : ∀ y z, dW y = dW z → y = z := fun y z h => Prod.ext (aC.inj (congrArg (fun o => [avD (aI 0 (cellsOf (aI 0 (Out.res o)))), avD (aI 1 (cellsOf (aI 0 (Out.res o)))), avD (aI 2 (cellsOf (aI 0 (Out.res o)))), avD (aI 3 (cellsOf (aI 0 (Out.res o)))), avD (aI 4 (cellsOf (aI 0 (Out.res o)))), avD (aI 5 (cellsOf (aI 0 (Out.res o)))), avD (aI 6 (cellsOf (aI 0 (Out.res o)))), D.sl aF.ks (bZ 0 (Out.rws o)), D.sl aA.ks (bZ 1 (Out.rws o)), avD (aI 9 (cellsOf (aI 0 (Out.res o)))), D.sl aB.ks (bZ 2 (Out.rws o)), D.sl [.int .i64] (bZ 3 (Out.rws o)), avD (aI 12 (cellsOf (aI 0 (Out.res o)))), D.sl [.int .i64] (bZ 4 (Out.rws o)), avD (aI 14 (cellsOf (aI 0 (Out.res o)))), avD (aI 15 (cellsOf (aI 0 (Out.res o)))), avD (aI 16 (cellsOf (aI 0 (Out.res o)))), avD (aI 17 (cellsOf (aI 0 (Out.res o)))), avD (aI 18 (cellsOf (aI 0 (Out.res o)))), avD (aI 19 (cellsOf (aI 0 (Out.res o)))), avD (aI 20 (cellsOf (aI 0 (Out.res o)))), avD (aI 21 (cellsOf (aI 0 (Out.res o)))), avD (aI 22 (cellsOf (aI 0 (Out.res o)))), avD (aI 23 (cellsOf (aI 0 (Out.res o)))), D.sl aD.ks (bZ 5 (Out.rws o))]) h)) (Prod.ext (congrArg (fun o => aX (avD (aI 1 (Out.res o)))) h) (congrArg (fun o => aL (avD (aI 2 (Out.res o)))) h))
def c8 : (aC) → Out := fun r => .ret [aC.av r] [] []
theorem nP : ∀ y z, c8 y = c8 z → y = z := fun y z h => aC.inj (congrArg (fun o => List.map avD (cellsOf (aI 0 (Out.res o)))) h)
def iV : (aA) → Out := fun r => .ret [.agg [.d (.str r.Topic), .d (.str r.Payload), .d (.int .i64 r.Level), .d (.bool r.Retain), .d (.int .i64 r.Priority), .d (.int .i64 r.Expires), .d (.str r.From), .d (.int .i64 r.Seq), .row 0]] [] [⟨aD.ks, 130, 32, (List.map aD.enc r.Props)⟩]
theorem oH : ∀ y z, iV y = iV z → y = z := fun y z h => aA.inj (congrArg (fun o => [avD (aI 0 (cellsOf (aI 0 (Out.res o)))), avD (aI 1 (cellsOf (aI 0 (Out.res o)))), avD (aI 2 (cellsOf (aI 0 (Out.res o)))), avD (aI 3 (cellsOf (aI 0 (Out.res o)))), avD (aI 4 (cellsOf (aI 0 (Out.res o)))), avD (aI 5 (cellsOf (aI 0 (Out.res o)))), avD (aI 6 (cellsOf (aI 0 (Out.res o)))), avD (aI 7 (cellsOf (aI 0 (Out.res o)))), D.sl aD.ks (bZ 0 (Out.rws o))]) h)
def kV : ((List aA)) → Out := fun r => .ret [.row 0] [] [⟨aA.ks, 34, 112, (List.map aA.enc r)⟩]
theorem ag8 : ∀ y z, kV y = kV z → y = z := fun y z h => map_inj aA.inj (congrArg (fun o => bZ 0 (Out.rws o)) h)
def jF : ((List aA) × (List aA) × Bool) → Out := fun r => .ret [.row 0, .row 1, .d (.bool r.2.2)] [] [⟨aA.ks, 34, 112, (List.map aA.enc r.1)⟩, ⟨aA.ks, 34, 112, (List.map aA.enc r.2.1)⟩]
theorem aii : ∀ y z, jF y = jF z → y = z := fun y z h => Prod.ext (map_inj aA.inj (congrArg (fun o => bZ 0 (Out.rws o)) h)) (Prod.ext (map_inj aA.inj (congrArg (fun o => bZ 1 (Out.rws o)) h)) (congrArg (fun o => aX (avD (aI 2 (Out.res o)))) h))
def fA : (aC × Bool) → Out := fun r => .ret [aC.av r.1, .d (.bool r.2)] [] []
theorem rV : ∀ y z, fA y = fA z → y = z := fun y z h => Prod.ext (aC.inj (congrArg (fun o => List.map avD (cellsOf (aI 0 (Out.res o)))) h)) (congrArg (fun o => aX (avD (aI 1 (Out.res o)))) h)
def jC : (Bool) → Out := fun r => .ret [.d (.bool r)] [] []
theorem ads : ∀ y z, jC y = jC z → y = z := fun y z h => congrArg (fun o => aX (avD (aI 0 (Out.res o)))) h
def iP : (Int) → Out := fun r => .ret [.d (.int .i64 r)] [] []
theorem aeU : ∀ y z, iP y = iP z → y = z := fun y z h => congrArg (fun o => aL (avD (aI 0 (Out.res o)))) h
def j5 : (Bool) → Out := fun r => .ret [.d (.bool r)] [] []
theorem agl : ∀ y z, j5 y = j5 z → y = z := fun y z h => congrArg (fun o => aX (avD (aI 0 (Out.res o)))) h
def mZ : (Bool) → Out := fun r => .ret [.d (.bool r)] [] []
theorem o0 : ∀ y z, mZ y = mZ z → y = z := fun y z h => congrArg (fun o => aX (avD (aI 0 (Out.res o)))) h
def iW : (Bool) → Out := fun r => .ret [.d (.bool r)] [] []
theorem ago : ∀ y z, iW y = iW z → y = z := fun y z h => congrArg (fun o => aX (avD (aI 0 (Out.res o)))) h
def iR : (Int) → Out := fun r => .ret [.d (.int .i64 r)] [] []
theorem xN : ∀ y z, iR y = iR z → y = z := fun y z h => congrArg (fun o => aL (avD (aI 0 (Out.res o)))) h
def j8 : (Int) → Out := fun r => .ret [.d (.int .i64 r)] [] []
theorem aeQ : ∀ y z, j8 y = j8 z → y = z := fun y z h => congrArg (fun o => aL (avD (aI 0 (Out.res o)))) h
def mY : (Int) → Out := fun r => .ret [.d (.int .i64 r)] [] []
theorem ahi : ∀ y z, mY y = mY z → y = z := fun y z h => congrArg (fun o => aL (avD (aI 0 (Out.res o)))) h
def jR : (Bool) → Out := fun r => .ret [.d (.bool r)] [] []
theorem wJ : ∀ y z, jR y = jR z → y = z := fun y z h => congrArg (fun o => aX (avD (aI 0 (Out.res o)))) h
def kC : (Bool) → Out := fun r => .ret [.d (.bool r)] [] []
theorem aeW : ∀ y z, kC y = kC z → y = z := fun y z h => congrArg (fun o => aX (avD (aI 0 (Out.res o)))) h
def g5 : (Bool) → Out := fun r => .ret [.d (.bool r)] [] []
theorem sZ : ∀ y z, g5 y = g5 z → y = z := fun y z h => congrArg (fun o => aX (avD (aI 0 (Out.res o)))) h
def bM : (Int × Bool) → Out := fun r => .ret [.d (.int .i64 r.1), .d (.bool r.2)] [] []
theorem mA : ∀ y z, bM y = bM z → y = z := fun y z h => Prod.ext (congrArg (fun o => aL (avD (aI 0 (Out.res o)))) h) (congrArg (fun o => aX (avD (aI 1 (Out.res o)))) h)
def dM : ((List Int)) → Out := fun r => .ret [.row 0] [] [⟨[.int .i64], 3, 8, (List.map (encI .i64) r)⟩]
theorem vJ : ∀ y z, dM y = dM z → y = z := fun y z h => map_inj (vI _) (congrArg (fun o => bZ 0 (Out.rws o)) h)
def kT : (Int × aJ × Int) → Out := fun r => .ret [.d (.int .i64 r.1), .agg [.row 0, .d (.int .i64 r.2.1.Last)], .d (.int .i64 r.2.2)] [] [⟨[.int .i64], 3, 8, (List.map (encI .i64) r.2.1.Used)⟩]
theorem ahe : ∀ y z, kT y = kT z → y = z := fun y z h => Prod.ext (congrArg (fun o => aL (avD (aI 0 (Out.res o)))) h) (Prod.ext (aJ.inj (congrArg (fun o => [D.sl [.int .i64] (bZ 0 (Out.rws o)), avD (aI 1 (cellsOf (aI 1 (Out.res o))))]) h)) (congrArg (fun o => aL (avD (aI 2 (Out.res o)))) h))
def c9 : (aA) → Out := fun r => .ret [.agg [.d (.str r.Topic), .d (.str r.Payload), .d (.int .i64 r.Level), .d (.bool r.Retain), .d (.int .i64 r.Priority), .d (.int .i64 r.Expires), .d (.str r.From), .d (.int .i64 r.Seq), .row 0]] [] [⟨aD.ks, 130, 32, (List.map aD.enc r.Props)⟩]
theorem qB : ∀ y z, c9 y = c9 z → y = z := fun y z h => aA.inj (congrArg (fun o => [avD (aI 0 (cellsOf (aI 0 (Out.res o)))), avD (aI 1 (cellsOf (aI 0 (Out.res o)))), avD (aI 2 (cellsOf (aI 0 (Out.res o)))), avD (aI 3 (cellsOf (aI 0 (Out.res o)))), avD (aI 4 (cellsOf (aI 0 (Out.res o)))), avD (aI 5 (cellsOf (aI 0 (Out.res o)))), avD (aI 6 (cellsOf (aI 0 (Out.res o)))), avD (aI 7 (cellsOf (aI 0 (Out.res o)))), D.sl aD.ks (bZ 0 (Out.rws o))]) h)
def cY : (aG) → Out := fun r => .ret [.agg [.d (.int .i64 r.Limit), .row 0, .row 1, .d (.int .i64 r.Pool.Last)]] [] [⟨aB.ks, 122, 128, (List.map aB.enc r.Items)⟩, ⟨[.int .i64], 3, 8, (List.map (encI .i64) r.Pool.Used)⟩]
theorem jP : ∀ y z, cY y = cY z → y = z := fun y z h => aG.inj (congrArg (fun o => [avD (aI 0 (cellsOf (aI 0 (Out.res o)))), D.sl aB.ks (bZ 0 (Out.rws o)), D.sl [.int .i64] (bZ 1 (Out.rws o)), avD (aI 3 (cellsOf (aI 0 (Out.res o))))]) h)
def eJ : (aE) → Out := fun r => .ret [.agg [.d (.int .i64 r.Kind), .d (.int .i64 r.ID), .d (.bool r.Dup), .d (.str r.Message.Topic), .d (.str r.Message.Payload), .d (.int .i64 r.Message.Level), .d (.bool r.Message.Retain), .d (.int .i64 r.Message.Priority), .d (.int .i64 r.Message.Expires), .d (.str r.Message.From), .d (.int .i64 r.Message.Seq), .row 0, .d (.str r.Client), .d (.str r.User), .d (.bool r.Clean), .d (.int .i64 r.Keep), .d (.int .i64 r.Expiry), .d (.int .i64 r.Window), .d (.bool r.Will.Set), .d (.int .i64 r.Will.Delay), .d (.str r.Will.Message.Topic), .d (.str r.Will.Message.Payload), .d (.int .i64 r.Will.Message.Level), .d (.bool r.Will.Message.Retain), .d (.int .i64 r.Will.Message.Priority), .d (.int .i64 r.Will.Message.Expires), .d (.str r.Will.Message.From), .d (.int .i64 r.Will.Message.Seq), .row 1, .d (.bool r.Present), .d (.int .i64 r.Code), .row 2, .row 3, .row 4]] [] [⟨aD.ks, 130, 32, (List.map aD.enc r.Message.Props)⟩, ⟨aD.ks, 130, 32, (List.map aD.enc r.Will.Message.Props)⟩, ⟨aF.ks, 60, 32, (List.map aF.enc r.Subs)⟩, ⟨[.str], 9, 16, (List.map bF r.Filters)⟩, ⟨[.int .i64], 3, 8, (List.map (encI .i64) r.Codes)⟩]
theorem uT : ∀ y z, eJ y = eJ z → y = z := fun y z h => aE.inj (congrArg (fun o => [avD (aI 0 (cellsOf (aI 0 (Out.res o)))), avD (aI 1 (cellsOf (aI 0 (Out.res o)))), avD (aI 2 (cellsOf (aI 0 (Out.res o)))), avD (aI 3 (cellsOf (aI 0 (Out.res o)))), avD (aI 4 (cellsOf (aI 0 (Out.res o)))), avD (aI 5 (cellsOf (aI 0 (Out.res o)))), avD (aI 6 (cellsOf (aI 0 (Out.res o)))), avD (aI 7 (cellsOf (aI 0 (Out.res o)))), avD (aI 8 (cellsOf (aI 0 (Out.res o)))), avD (aI 9 (cellsOf (aI 0 (Out.res o)))), avD (aI 10 (cellsOf (aI 0 (Out.res o)))), D.sl aD.ks (bZ 0 (Out.rws o)), avD (aI 12 (cellsOf (aI 0 (Out.res o)))), avD (aI 13 (cellsOf (aI 0 (Out.res o)))), avD (aI 14 (cellsOf (aI 0 (Out.res o)))), avD (aI 15 (cellsOf (aI 0 (Out.res o)))), avD (aI 16 (cellsOf (aI 0 (Out.res o)))), avD (aI 17 (cellsOf (aI 0 (Out.res o)))), avD (aI 18 (cellsOf (aI 0 (Out.res o)))), avD (aI 19 (cellsOf (aI 0 (Out.res o)))), avD (aI 20 (cellsOf (aI 0 (Out.res o)))), avD (aI 21 (cellsOf (aI 0 (Out.res o)))), avD (aI 22 (cellsOf (aI 0 (Out.res o)))), avD (aI 23 (cellsOf (aI 0 (Out.res o)))), avD (aI 24 (cellsOf (aI 0 (Out.res o)))), avD (aI 25 (cellsOf (aI 0 (Out.res o)))), avD (aI 26 (cellsOf (aI 0 (Out.res o)))), avD (aI 27 (cellsOf (aI 0 (Out.res o)))), D.sl aD.ks (bZ 1 (Out.rws o)), avD (aI 29 (cellsOf (aI 0 (Out.res o)))), avD (aI 30 (cellsOf (aI 0 (Out.res o)))), D.sl aF.ks (bZ 2 (Out.rws o)), D.sl [.str] (bZ 3 (Out.rws o)), D.sl [.int .i64] (bZ 4 (Out.rws o))]) h)
def iF : (aG × aE × Int) → Out := fun r => .ret [.agg [.d (.int .i64 r.1.Limit), .row 0, .row 1, .d (.int .i64 r.1.Pool.Last)], .agg [.d (.int .i64 r.2.1.Kind), .d (.int .i64 r.2.1.ID), .d (.bool r.2.1.Dup), .d (.str r.2.1.Message.Topic), .d (.str r.2.1.Message.Payload), .d (.int .i64 r.2.1.Message.Level), .d (.bool r.2.1.Message.Retain), .d (.int .i64 r.2.1.Message.Priority), .d (.int .i64 r.2.1.Message.Expires), .d (.str r.2.1.Message.From), .d (.int .i64 r.2.1.Message.Seq), .row 2, .d (.str r.2.1.Client), .d (.str r.2.1.User), .d (.bool r.2.1.Clean), .d (.int .i64 r.2.1.Keep), .d (.int .i64 r.2.1.Expiry), .d (.int .i64 r.2.1.Window), .d (.bool r.2.1.Will.Set), .d (.int .i64 r.2.1.Will.Delay), .d (.str r.2.1.Will.Message.Topic), .d (.str r.2.1.Will.Message.Payload), .d (.int .i64 r.2.1.Will.Message.Level), .d (.bool r.2.1.Will.Message.Retain), .d (.int .i64 r.2.1.Will.Message.Priority), .d (.int .i64 r.2.1.Will.Message.Expires), .d (.str r.2.1.Will.Message.From), .d (.int .i64 r.2.1.Will.Message.Seq), .row 3, .d (.bool r.2.1.Present), .d (.int .i64 r.2.1.Code), .row 4, .row 5, .row 6], .d (.int .i64 r.2.2)] [] [⟨aB.ks, 122, 128, (List.map aB.enc r.1.Items)⟩, ⟨[.int .i64], 3, 8, (List.map (encI .i64) r.1.Pool.Used)⟩, ⟨aD.ks, 130, 32, (List.map aD.enc r.2.1.Message.Props)⟩, ⟨aD.ks, 130, 32, (List.map aD.enc r.2.1.Will.Message.Props)⟩, ⟨aF.ks, 60, 32, (List.map aF.enc r.2.1.Subs)⟩, ⟨[.str], 9, 16, (List.map bF r.2.1.Filters)⟩, ⟨[.int .i64], 3, 8, (List.map (encI .i64) r.2.1.Codes)⟩]
theorem ael : ∀ y z, iF y = iF z → y = z := fun y z h => Prod.ext (aG.inj (congrArg (fun o => [avD (aI 0 (cellsOf (aI 0 (Out.res o)))), D.sl aB.ks (bZ 0 (Out.rws o)), D.sl [.int .i64] (bZ 1 (Out.rws o)), avD (aI 3 (cellsOf (aI 0 (Out.res o))))]) h)) (Prod.ext (aE.inj (congrArg (fun o => [avD (aI 0 (cellsOf (aI 1 (Out.res o)))), avD (aI 1 (cellsOf (aI 1 (Out.res o)))), avD (aI 2 (cellsOf (aI 1 (Out.res o)))), avD (aI 3 (cellsOf (aI 1 (Out.res o)))), avD (aI 4 (cellsOf (aI 1 (Out.res o)))), avD (aI 5 (cellsOf (aI 1 (Out.res o)))), avD (aI 6 (cellsOf (aI 1 (Out.res o)))), avD (aI 7 (cellsOf (aI 1 (Out.res o)))), avD (aI 8 (cellsOf (aI 1 (Out.res o)))), avD (aI 9 (cellsOf (aI 1 (Out.res o)))), avD (aI 10 (cellsOf (aI 1 (Out.res o)))), D.sl aD.ks (bZ 2 (Out.rws o)), avD (aI 12 (cellsOf (aI 1 (Out.res o)))), avD (aI 13 (cellsOf (aI 1 (Out.res o)))), avD (aI 14 (cellsOf (aI 1 (Out.res o)))), avD (aI 15 (cellsOf (aI 1 (Out.res o)))), avD (aI 16 (cellsOf (aI 1 (Out.res o)))), avD (aI 17 (cellsOf (aI 1 (Out.res o)))), avD (aI 18 (cellsOf (aI 1 (Out.res o)))), avD (aI 19 (cellsOf (aI 1 (Out.res o)))), avD (aI 20 (cellsOf (aI 1 (Out.res o)))), avD (aI 21 (cellsOf (aI 1 (Out.res o)))), avD (aI 22 (cellsOf (aI 1 (Out.res o)))), avD (aI 23 (cellsOf (aI 1 (Out.res o)))), avD (aI 24 (cellsOf (aI 1 (Out.res o)))), avD (aI 25 (cellsOf (aI 1 (Out.res o)))), avD (aI 26 (cellsOf (aI 1 (Out.res o)))), avD (aI 27 (cellsOf (aI 1 (Out.res o)))), D.sl aD.ks (bZ 3 (Out.rws o)), avD (aI 29 (cellsOf (aI 1 (Out.res o)))), avD (aI 30 (cellsOf (aI 1 (Out.res o)))), D.sl aF.ks (bZ 4 (Out.rws o)), D.sl [.str] (bZ 5 (Out.rws o)), D.sl [.int .i64] (bZ 6 (Out.rws o))]) h)) (congrArg (fun o => aL (avD (aI 2 (Out.res o)))) h))
def dR : (aC × (List aE)) → Out := fun r => .ret [aC.av r.1, .row 0] [] [⟨aE.ks, 49, 416, (List.map aE.enc r.2)⟩]
theorem sW : ∀ y z, dR y = dR z → y = z := fun y z h => Prod.ext (aC.inj (congrArg (fun o => List.map avD (cellsOf (aI 0 (Out.res o)))) h)) (map_inj aE.inj (congrArg (fun o => bZ 0 (Out.rws o)) h))
def kY : (aC × (List aE)) → Out := fun r => .ret [aC.av r.1, .row 0] [] [⟨aE.ks, 49, 416, (List.map aE.enc r.2)⟩]
theorem afM : ∀ y z, kY y = kY z → y = z := fun y z h => Prod.ext (aC.inj (congrArg (fun o => List.map avD (cellsOf (aI 0 (Out.res o)))) h)) (map_inj aE.inj (congrArg (fun o => bZ 0 (Out.rws o)) h))
def jD : (Bool × Int) → Out := fun r => .ret [.d (.bool r.1)] [⟨3, [.d (.int .i64 r.2)]⟩] []
theorem adn : ∀ y z, jD y = jD z → y = z := fun y z h => Prod.ext (congrArg (fun o => aX (avD (aI 0 (Out.res o)))) h) (congrArg (fun o => aL (avD (aI 0 (alk 0 (Out.bxs o))))) h)
def bK : (Int × Int) → Out := fun r => .ret [.d (.int .i64 r.1)] [⟨3, [.d (.int .i64 r.2)]⟩] []
theorem oI : ∀ y z, bK y = bK z → y = z := fun y z h => Prod.ext (congrArg (fun o => aL (avD (aI 0 (Out.res o)))) h) (congrArg (fun o => aL (avD (aI 0 (alk 0 (Out.bxs o))))) h)
def kE : (Int) → Out := fun r => .ret [.d (.int .i64 r)] [] []
theorem aeT : ∀ y z, kE y = kE z → y = z := fun y z h => congrArg (fun o => aL (avD (aI 0 (Out.res o)))) h
def dL : ((List Int)) → Out := fun r => .ret [.row 0] [] [⟨[.int .i64], 3, 8, (List.map (encI .i64) r)⟩]
theorem vT : ∀ y z, dL y = dL z → y = z := fun y z h => map_inj (vI _) (congrArg (fun o => bZ 0 (Out.rws o)) h)
def mX : (aJ × Bool) → Out := fun r => .ret [.agg [.row 0, .d (.int .i64 r.1.Last)], .d (.bool r.2)] [] [⟨[.int .i64], 3, 8, (List.map (encI .i64) r.1.Used)⟩]
theorem ahx : ∀ y z, mX y = mX z → y = z := fun y z h => Prod.ext (aJ.inj (congrArg (fun o => [D.sl [.int .i64] (bZ 0 (Out.rws o)), avD (aI 1 (cellsOf (aI 0 (Out.res o))))]) h)) (congrArg (fun o => aX (avD (aI 1 (Out.res o)))) h)
def bV : ((List aB)) → Out := fun r => .ret [.row 0] [] [⟨aB.ks, 122, 128, (List.map aB.enc r)⟩]
theorem o5 : ∀ y z, bV y = bV z → y = z := fun y z h => map_inj aB.inj (congrArg (fun o => bZ 0 (Out.rws o)) h)
def jB : (aG) → Out := fun r => .ret [.agg [.d (.int .i64 r.Limit), .row 0, .row 1, .d (.int .i64 r.Pool.Last)]] [] [⟨aB.ks, 122, 128, (List.map aB.enc r.Items)⟩, ⟨[.int .i64], 3, 8, (List.map (encI .i64) r.Pool.Used)⟩]
theorem vC : ∀ y z, jB y = jB z → y = z := fun y z h => aG.inj (congrArg (fun o => [avD (aI 0 (cellsOf (aI 0 (Out.res o)))), D.sl aB.ks (bZ 0 (Out.rws o)), D.sl [.int .i64] (bZ 1 (Out.rws o)), avD (aI 3 (cellsOf (aI 0 (Out.res o))))]) h)
def eV : (aE) → Out := fun r => .ret [.agg [.d (.int .i64 r.Kind), .d (.int .i64 r.ID), .d (.bool r.Dup), .d (.str r.Message.Topic), .d (.str r.Message.Payload), .d (.int .i64 r.Message.Level), .d (.bool r.Message.Retain), .d (.int .i64 r.Message.Priority), .d (.int .i64 r.Message.Expires), .d (.str r.Message.From), .d (.int .i64 r.Message.Seq), .row 0, .d (.str r.Client), .d (.str r.User), .d (.bool r.Clean), .d (.int .i64 r.Keep), .d (.int .i64 r.Expiry), .d (.int .i64 r.Window), .d (.bool r.Will.Set), .d (.int .i64 r.Will.Delay), .d (.str r.Will.Message.Topic), .d (.str r.Will.Message.Payload), .d (.int .i64 r.Will.Message.Level), .d (.bool r.Will.Message.Retain), .d (.int .i64 r.Will.Message.Priority), .d (.int .i64 r.Will.Message.Expires), .d (.str r.Will.Message.From), .d (.int .i64 r.Will.Message.Seq), .row 1, .d (.bool r.Present), .d (.int .i64 r.Code), .row 2, .row 3, .row 4]] [] [⟨aD.ks, 130, 32, (List.map aD.enc r.Message.Props)⟩, ⟨aD.ks, 130, 32, (List.map aD.enc r.Will.Message.Props)⟩, ⟨aF.ks, 60, 32, (List.map aF.enc r.Subs)⟩, ⟨[.str], 9, 16, (List.map bF r.Filters)⟩, ⟨[.int .i64], 3, 8, (List.map (encI .i64) r.Codes)⟩]
theorem qA : ∀ y z, eV y = eV z → y = z := fun y z h => aE.inj (congrArg (fun o => [avD (aI 0 (cellsOf (aI 0 (Out.res o)))), avD (aI 1 (cellsOf (aI 0 (Out.res o)))), avD (aI 2 (cellsOf (aI 0 (Out.res o)))), avD (aI 3 (cellsOf (aI 0 (Out.res o)))), avD (aI 4 (cellsOf (aI 0 (Out.res o)))), avD (aI 5 (cellsOf (aI 0 (Out.res o)))), avD (aI 6 (cellsOf (aI 0 (Out.res o)))), avD (aI 7 (cellsOf (aI 0 (Out.res o)))), avD (aI 8 (cellsOf (aI 0 (Out.res o)))), avD (aI 9 (cellsOf (aI 0 (Out.res o)))), avD (aI 10 (cellsOf (aI 0 (Out.res o)))), D.sl aD.ks (bZ 0 (Out.rws o)), avD (aI 12 (cellsOf (aI 0 (Out.res o)))), avD (aI 13 (cellsOf (aI 0 (Out.res o)))), avD (aI 14 (cellsOf (aI 0 (Out.res o)))), avD (aI 15 (cellsOf (aI 0 (Out.res o)))), avD (aI 16 (cellsOf (aI 0 (Out.res o)))), avD (aI 17 (cellsOf (aI 0 (Out.res o)))), avD (aI 18 (cellsOf (aI 0 (Out.res o)))), avD (aI 19 (cellsOf (aI 0 (Out.res o)))), avD (aI 20 (cellsOf (aI 0 (Out.res o)))), avD (aI 21 (cellsOf (aI 0 (Out.res o)))), avD (aI 22 (cellsOf (aI 0 (Out.res o)))), avD (aI 23 (cellsOf (aI 0 (Out.res o)))), avD (aI 24 (cellsOf (aI 0 (Out.res o)))), avD (aI 25 (cellsOf (aI 0 (Out.res o)))), avD (aI 26 (cellsOf (aI 0 (Out.res o)))), avD (aI 27 (cellsOf (aI 0 (Out.res o)))), D.sl aD.ks (bZ 1 (Out.rws o)), avD (aI 29 (cellsOf (aI 0 (Out.res o)))), avD (aI 30 (cellsOf (aI 0 (Out.res o)))), D.sl aF.ks (bZ 2 (Out.rws o)), D.sl [.str] (bZ 3 (Out.rws o)), D.sl [.int .i64] (bZ 4 (Out.rws o))]) h)
def eY : (aG × (List aE) × Int) → Out := fun r => .ret [.agg [.d (.int .i64 r.1.Limit), .row 0, .row 1, .d (.int .i64 r.1.Pool.Last)], .row 2, .d (.int .i64 r.2.2)] [] [⟨aB.ks, 122, 128, (List.map aB.enc r.1.Items)⟩, ⟨[.int .i64], 3, 8, (List.map (encI .i64) r.1.Pool.Used)⟩, ⟨aE.ks, 49, 416, (List.map aE.enc r.2.1)⟩]
theorem adv : ∀ y z, eY y = eY z → y = z := fun y z h => Prod.ext (aG.inj (congrArg (fun o => [avD (aI 0 (cellsOf (aI 0 (Out.res o)))), D.sl aB.ks (bZ 0 (Out.rws o)), D.sl [.int .i64] (bZ 1 (Out.rws o)), avD (aI 3 (cellsOf (aI 0 (Out.res o))))]) h)) (Prod.ext (map_inj aE.inj (congrArg (fun o => bZ 2 (Out.rws o)) h)) (congrArg (fun o => aL (avD (aI 2 (Out.res o)))) h))
def jS : (aC × (List aE) × Int) → Out := fun r => .ret [aC.av r.1, .row 0, .d (.int .i64 r.2.2)] [] [⟨aE.ks, 49, 416, (List.map aE.enc r.2.1)⟩]
theorem adM : ∀ y z, jS y = jS z → y = z := fun y z h => Prod.ext (aC.inj (congrArg (fun o => List.map avD (cellsOf (aI 0 (Out.res o)))) h)) (Prod.ext (map_inj aE.inj (congrArg (fun o => bZ 0 (Out.rws o)) h)) (congrArg (fun o => aL (avD (aI 2 (Out.res o)))) h))
def eA : (Bool) → Out := fun r => .ret [.d (.bool r)] [] []
theorem s0 : ∀ y z, eA y = eA z → y = z := fun y z h => congrArg (fun o => aX (avD (aI 0 (Out.res o)))) h
def bI : (Int) → Out := fun r => .ret [.d (.int .i64 r)] [] []
theorem nY : ∀ y z, bI y = bI z → y = z := fun y z h => congrArg (fun o => aL (avD (aI 0 (Out.res o)))) h
def bG : ((List aA)) → Out := fun r => .ret [.row 0] [] [⟨aA.ks, 34, 112, (List.map aA.enc r)⟩]
theorem m5 : ∀ y z, bG y = bG z → y = z := fun y z h => map_inj aA.inj (congrArg (fun o => bZ 0 (Out.rws o)) h)
def jE : (aC) → Out := fun r => .ret [aC.av r] [] []
theorem adh : ∀ y z, jE y = jE z → y = z := fun y z h => aC.inj (congrArg (fun o => List.map avD (cellsOf (aI 0 (Out.res o)))) h)
def gR : ((List aE)) → Out := fun r => .ret [.row 0] [] [⟨aE.ks, 49, 416, (List.map aE.enc r)⟩]
theorem adg : ∀ y z, gR y = gR z → y = z := fun y z h => map_inj aE.inj (congrArg (fun o => bZ 0 (Out.rws o)) h)
def jW : (aC × (List aE)) → Out := fun r => .ret [aC.av r.1, .row 0] [] [⟨aE.ks, 49, 416, (List.map aE.enc r.2)⟩]
theorem aeo : ∀ y z, jW y = jW z → y = z := fun y z h => Prod.ext (aC.inj (congrArg (fun o => List.map avD (cellsOf (aI 0 (Out.res o)))) h)) (map_inj aE.inj (congrArg (fun o => bZ 0 (Out.rws o)) h))
def iX : (Bool) → Out := fun r => .ret [.d (.bool r)] [] []
theorem vA : ∀ y z, iX y = iX z → y = z := fun y z h => congrArg (fun o => aX (avD (aI 0 (Out.res o)))) h
def fC : (Bool) → Out := fun r => .ret [.d (.bool r)] [] []
theorem pB : ∀ y z, fC y = fC z → y = z := fun y z h => congrArg (fun o => aX (avD (aI 0 (Out.res o)))) h
def fM : (aC) → Out := fun r => .ret [aC.av r] [] []
theorem rP : ∀ y z, fM y = fM z → y = z := fun y z h => aC.inj (congrArg (fun o => List.map avD (cellsOf (aI 0 (Out.res o)))) h)
def dF : ((List aA) × (List aA) × Bool) → Out := fun r => .ret [.d (.sl aA.ks (List.map aA.enc r.1)), .row 0, .d (.bool r.2.2)] [] [⟨aA.ks, 34, 112, (List.map aA.enc r.2.1)⟩]
theorem acL : ∀ y z, dF y = dF z → y = z := fun y z h => Prod.ext (map_inj aA.inj (congrArg (fun o => dSl (avD (aI 0 (Out.res o)))) h)) (Prod.ext (map_inj aA.inj (congrArg (fun o => bZ 0 (Out.rws o)) h)) (congrArg (fun o => aX (avD (aI 2 (Out.res o)))) h))
def eF : (aC × Bool) → Out := fun r => .ret [aC.av r.1, .d (.bool r.2)] [] []
theorem abm : ∀ y z, eF y = eF z → y = z := fun y z h => Prod.ext (aC.inj (congrArg (fun o => List.map avD (cellsOf (aI 0 (Out.res o)))) h)) (congrArg (fun o => aX (avD (aI 1 (Out.res o)))) h)
def fR : (Bool) → Out := fun r => .ret [.d (.bool r)] [] []
theorem acn : ∀ y z, fR y = fR z → y = z := fun y z h => congrArg (fun o => aX (avD (aI 0 (Out.res o)))) h
def fT : (Bool) → Out := fun r => .ret [.d (.bool r)] [] []
theorem acr : ∀ y z, fT y = fT z → y = z := fun y z h => congrArg (fun o => aX (avD (aI 0 (Out.res o)))) h
def dG : (Bool) → Out := fun r => .ret [.d (.bool r)] [] []
theorem tX : ∀ y z, dG y = dG z → y = z := fun y z h => congrArg (fun o => aX (avD (aI 0 (Out.res o)))) h
def iI : (Bool) → Out := fun r => .ret [.d (.bool r)] [] []
theorem acx : ∀ y z, iI y = iI z → y = z := fun y z h => congrArg (fun o => aX (avD (aI 0 (Out.res o)))) h
def eK : (Bool) → Out := fun r => .ret [.d (.bool r)] [] []
theorem acw : ∀ y z, eK y = eK z → y = z := fun y z h => congrArg (fun o => aX (avD (aI 0 (Out.res o)))) h
def iN : (Bool) → Out := fun r => .ret [.d (.bool r)] [] []
theorem acg : ∀ y z, iN y = iN z → y = z := fun y z h => congrArg (fun o => aX (avD (aI 0 (Out.res o)))) h
def iJ : (Bool) → Out := fun r => .ret [.d (.bool r)] [] []
theorem acd : ∀ y z, iJ y = iJ z → y = z := fun y z h => congrArg (fun o => aX (avD (aI 0 (Out.res o)))) h
def iK : (Bool) → Out := fun r => .ret [.d (.bool r)] [] []
theorem acG : ∀ y z, iK y = iK z → y = z := fun y z h => congrArg (fun o => aX (avD (aI 0 (Out.res o)))) h
def kI : (Bool) → Out := fun r => .ret [.d (.bool r)] [] []
def good : FuncId → Out → Prop := fun f o => match f with | 100 => ∃ x, g9 x = o | 101 => ∃ x, hR x = o | 48 => ∃ x, cE x = o | 94 => ∃ x, jT x = o | 41 => ∃ x, eL x = o | 168 => ∃ x, dK x = o | 99 => ∃ x, cR x = o | 150 => ∃ x, cJ x = o | 98 => ∃ x, c7 x = o | 167 => ∃ x, cC x = o | 166 => ∃ x, cB x = o | 133 => ∃ x, gD x = o | 134 => ∃ x, g8 x = o | 135 => ∃ x, gE x = o | 69 => ∃ x, iZ x = o | 42 => ∃ x, fP x = o | 47 => ∃ x, hH x = o | 102 => ∃ x, eZ x = o | 49 => ∃ x, fF x = o | 13 => ∃ x, bN x = o | 43 => ∃ x, fE x = o | 95 => ∃ x, cZ x = o | 148 => ∃ x, gU x = o | 115 => ∃ x, iA x = o | 96 => ∃ x, fV x = o | 44 => ∃ x, dY x = o | 45 => ∃ x, hI x = o | 149 => ∃ x, dH x = o | 97 => ∃ x, cD x = o | 46 => ∃ x, hY x = o | 40 => ∃ x, eB x = o | 12 => ∃ x, hQ x = o | 138 => ∃ x, bP x = o | 80 => ∃ x, cN x = o | 81 => ∃ x, kW x = o | 31 => ∃ x, lP x = o | 163 => ∃ x, cS x = o | 179 => ∃ x, eP x = o | 159 => ∃ x, g6 x = o | 193 => ∃ x, eR x = o | 189 => ∃ x, eD x = o | 180 => ∃ x, jA x = o | 160 => ∃ x, lT x = o | 139 => ∃ x, eI x = o | 161 => ∃ x, fH x = o | 199 => ∃ x, gH x = o | 198 => ∃ x, iQ x = o | 190 => ∃ x, cW x = o | 181 => ∃ x, kD x = o | 162 => ∃ x, k7 x = o | 126 => ∃ x, dO x = o | 127 => ∃ x, dZ x = o | 124 => ∃ x, kX x = o | 125 => ∃ x, gB x = o | 66 => ∃ x, iM x = o | 164 => ∃ x, eS x = o | 130 => ∃ x, iY x = o | 129 => ∃ x, jN x = o | 128 => ∃ x, bH x = o | 67 => ∃ x, kZ x = o | 103 => ∃ x, cI x = o | 104 => ∃ x, bL x = o | 50 => ∃ x, bS x = o | 68 => ∃ x, cF x = o | 26 => ∃ x, dW x = o | 51 => ∃ x, c8 x = o | 106 => ∃ x, iV x = o | 105 => ∃ x, kV x = o | 52 => ∃ x, jF x = o | 15 => ∃ x, fA x = o | 113 => ∃ x, jC x = o | 156 => ∃ x, iP x = o | 169 => ∃ x, j5 x = o | 170 => ∃ x, mZ x = o | 184 => ∃ x, iW x = o | 171 => ∃ x, iR x = o | 141 => ∃ x, j8 x = o | 177 => ∃ x, mY x = o | 191 => ∃ x, jR x = o | 185 => ∃ x, kC x = o | 186 => ∃ x, g5 x = o | 175 => ∃ x, bM x = o | 178 => ∃ x, dM x = o | 157 => ∃ x, kT x = o | 153 => ∃ x, c9 x = o | 110 => ∃ x, cY x = o | 147 => ∃ x, eJ x = o | 114 => ∃ x, iF x = o | 61 => ∃ x, dR x = o | 34 => ∃ x, kY x = o | 152 => ∃ x, jD x = o | 151 => ∃ x, bK x = o | 109 => ∃ x, kE x = o | 176 => ∃ x, dL x = o | 154 => ∃ x, mX x = o | 155 => ∃ x, bV x = o | 111 => ∃ x, jB x = o | 112 => ∃ x, eV x = o | 60 => ∃ x, eY x = o | 19 => ∃ x, jS x = o | 65 => ∃ x, eA x = o | 123 => ∃ x, bI x = o | 64 => ∃ x, bG x = o | 23 => ∃ x, jE x = o | 91 => ∃ x, gR x = o | 36 => ∃ x, jW x = o | 24 => ∃ x, iX x = o | 14 => ∃ x, fC x = o | 53 => ∃ x, fM x = o | 54 => ∃ x, dF x = o | 16 => ∃ x, eF x = o | 55 => ∃ x, fR x = o | 56 => ∃ x, fT x = o | 108 => ∃ x, dG x = o | 107 => ∃ x, iI x = o | 57 => ∃ x, eK x = o | 58 => ∃ x, iN x = o | 59 => ∃ x, iJ x = o | 17 => ∃ x, iK x = o | 3 => ∃ x, kI x = o | _ => False
abbrev cT {R : Type} (g : FuncId) (out : R → Out) : Gm R := af1 SE good g out
noncomputable abbrev gG : Fun := rC SE good
end Te
end PX
