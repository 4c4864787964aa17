import Derived.Test.YtojlmojebnlmdaaGreatDoorMod
import Derived.Test.YtojlmojebnlmdaaGreatDoorProg
set_option linter.unusedVariables false
set_option linter.unusedSimpArgs false
noncomputable section
namespace PX
open Go
open Md
namespace Te
def tyL : List (Nat × TI) := [(3, ⟨[.int .i64], false, 8, [], 0⟩),
 (4, ⟨[.bool], false, 1, [], 0⟩),
 (5, ⟨[.int .u8], false, 1, [], 0⟩),
 (9, ⟨[.str], false, 16, [], 0⟩),
 (21, ⟨[.int .i32], false, 4, [], 0⟩),
 (22, ⟨[.sl [.str, .int .i64, .bool]], false, 24, [], 60⟩),
 (23, ⟨[.sl [.str, .str, .int .i64, .bool, .int .i64, .int .i64, .str, .int .i64, .sl [.str, .str]]], false, 24, [], 34⟩),
 (24, ⟨[.sl [.int .i64, .int .i64, .str, .str, .int .i64, .bool, .int .i64, .int .i64, .str, .int .i64, .sl [.str, .str]]], false, 24, [], 122⟩),
 (25, ⟨[.sl [.int .i64]], false, 24, [], 3⟩),
 (27, ⟨[.sl [.int .i64], .int .i64], true, 32, [(0, 25), (1, 3)], 0⟩),
 (29, ⟨[.int .i64, .sl [.int .i64, .int .i64, .str, .str, .int .i64, .bool, .int .i64, .int .i64, .str, .int .i64, .sl [.str, .str]], .sl [.int .i64], .int .i64], true, 64, [(0, 3), (1, 24), (2, 27)], 0⟩),
 (31, ⟨[.sl [.int .i64]], true, 24, [(0, 25)], 0⟩),
 (32, ⟨[.sl [.str, .str]], false, 24, [], 130⟩),
 (34, ⟨[.str, .str, .int .i64, .bool, .int .i64, .int .i64, .str, .int .i64, .sl [.str, .str]], true, 112, [(0, 9), (1, 9), (2, 3), (3, 4), (4, 3), (5, 3), (6, 9), (7, 3), (8, 32)], 0⟩),
 (36, ⟨[.bool, .int .i64, .str, .str, .int .i64, .bool, .int .i64, .int .i64, .str, .int .i64, .sl [.str, .str]], true, 128, [(0, 4), (1, 3), (2, 34)], 0⟩),
 (38, ⟨[.str, .str, .bool, .int .i64, .int .i64, .int .i64, .int .i64, .sl [.str, .int .i64, .bool], .sl [.str, .str, .int .i64, .bool, .int .i64, .int .i64, .str, .int .i64, .sl [.str, .str]], .int .i64, .sl [.int .i64, .int .i64, .str, .str, .int .i64, .bool, .int .i64, .int .i64, .str, .int .i64, .sl [.str, .str]], .sl [.int .i64], .int .i64, .sl [.int .i64], .bool, .int .i64, .str, .str, .int .i64, .bool, .int .i64, .int .i64, .str, .int .i64, .sl [.str, .str]], true, 336, [(0, 9), (1, 9), (2, 4), (3, 3), (4, 3), (5, 3), (6, 3), (7, 22), (8, 23), (9, 29), (13, 31), (14, 36)], 0⟩),
 (39, ⟨[.int .i64], false, 8, [], 0⟩),
 (47, ⟨[.sl [.str]], false, 24, [], 9⟩),
 (49, ⟨[.int .i64, .int .i64, .bool, .str, .str, .int .i64, .bool, .int .i64, .int .i64, .str, .int .i64, .sl [.str, .str], .str, .str, .bool, .int .i64, .int .i64, .int .i64, .bool, .int .i64, .str, .str, .int .i64, .bool, .int .i64, .int .i64, .str, .int .i64, .sl [.str, .str], .bool, .int .i64, .sl [.str, .int .i64, .bool], .sl [.str], .sl [.int .i64]], true, 416, [(0, 3), (1, 3), (2, 4), (3, 34), (12, 9), (13, 9), (14, 4), (15, 3), (16, 3), (17, 3), (18, 36), (29, 4), (30, 3), (31, 22), (32, 47), (33, 25)], 0⟩),
 (51, ⟨[.sl [.int .i64, .int .i64, .bool, .str, .str, .int .i64, .bool, .int .i64, .int .i64, .str, .int .i64, .sl [.str, .str], .str, .str, .bool, .int .i64, .int .i64, .int .i64, .bool, .int .i64, .str, .str, .int .i64, .bool, .int .i64, .int .i64, .str, .int .i64, .sl [.str, .str], .bool, .int .i64, .sl [.str, .int .i64, .bool], .sl [.str], .sl [.int .i64]]], false, 24, [], 49⟩),
 (60, ⟨[.str, .int .i64, .bool], true, 32, [(0, 9), (1, 3), (2, 4)], 0⟩),
 (77, ⟨[.int .u64], false, 8, [], 0⟩),
 (87, ⟨[.sl [.int .i64]], false, 24, [], 39⟩),
 (103, ⟨[.fn], false, 8, [], 0⟩),
 (122, ⟨[.int .i64, .int .i64, .str, .str, .int .i64, .bool, .int .i64, .int .i64, .str, .int .i64, .sl [.str, .str]], true, 128, [(0, 3), (1, 3), (2, 34)], 0⟩),
 (130, ⟨[.str, .str], true, 32, [(0, 9), (1, 9)], 0⟩),
 (147, ⟨[.fn], false, 8, [], 0⟩),
 (157, ⟨[.fn], false, 8, [], 0⟩)]
def fnL : List (Nat × Func) := [(100, Go.Proofs.Tryz.f100), (101, Go.Proofs.Tryz.f101), (48, Go.Proofs.Tryz.f48), (94, Go.Proofs.Tryz.f94), (41, Go.Proofs.Tryz.f41), (168, Go.Proofs.Tryz.f168), (99, Go.Proofs.Tryz.f99), (150, Go.Proofs.Tryz.f150), (98, Go.Proofs.Tryz.f98), (167, Go.Proofs.Tryz.f167), (166, Go.Proofs.Tryz.f166), (133, Go.Proofs.Tryz.f133), (134, Go.Proofs.Tryz.f134), (135, Go.Proofs.Tryz.f135), (69, Go.Proofs.Tryz.f69), (42, Go.Proofs.Tryz.f42), (47, Go.Proofs.Tryz.f47), (102, Go.Proofs.Tryz.f102), (49, Go.Proofs.Tryz.f49), (13, Go.Proofs.Tryz.f13), (43, Go.Proofs.Tryz.f43), (95, Go.Proofs.Tryz.f95), (148, Go.Proofs.Tryz.f148), (115, Go.Proofs.Tryz.f115), (96, Go.Proofs.Tryz.f96), (44, Go.Proofs.Tryz.f44), (45, Go.Proofs.Tryz.f45), (149, Go.Proofs.Tryz.f149), (97, Go.Proofs.Tryz.f97), (46, Go.Proofs.Tryz.f46), (40, Go.Proofs.Tryz.f40), (12, Go.Proofs.Tryz.f12), (138, Go.Proofs.Tryz.f138), (80, Go.Proofs.Tryz.f80), (81, Go.Proofs.Tryz.f81), (31, Go.Proofs.Tryz.f31), (163, Go.Proofs.Tryz.f163), (179, Go.Proofs.Tryz.f179), (159, Go.Proofs.Tryz.f159), (193, Go.Proofs.Tryz.f193), (189, Go.Proofs.Tryz.f189), (180, Go.Proofs.Tryz.f180), (160, Go.Proofs.Tryz.f160), (139, Go.Proofs.Tryz.f139), (161, Go.Proofs.Tryz.f161), (199, Go.Proofs.Tryz.f199), (198, Go.Proofs.Tryz.f198), (190, Go.Proofs.Tryz.f190), (181, Go.Proofs.Tryz.f181), (162, Go.Proofs.Tryz.f162), (126, Go.Proofs.Tryz.f126), (127, Go.Proofs.Tryz.f127), (124, Go.Proofs.Tryz.f124), (125, Go.Proofs.Tryz.f125), (66, Go.Proofs.Tryz.f66), (164, Go.Proofs.Tryz.f164), (130, Go.Proofs.Tryz.f130), (129, Go.Proofs.Tryz.f129), (128, Go.Proofs.Tryz.f128), (67, Go.Proofs.Tryz.f67), (103, Go.Proofs.Tryz.f103), (104, Go.Proofs.Tryz.f104), (50, Go.Proofs.Tryz.f50), (68, Go.Proofs.Tryz.f68), (26, Go.Proofs.Tryz.f26), (51, Go.Proofs.Tryz.f51), (106, Go.Proofs.Tryz.f106), (105, Go.Proofs.Tryz.f105), (52, Go.Proofs.Tryz.f52), (15, Go.Proofs.Tryz.f15), (113, Go.Proofs.Tryz.f113), (156, Go.Proofs.Tryz.f156), (169, Go.Proofs.Tryz.f169), (170, Go.Proofs.Tryz.f170), (184, Go.Proofs.Tryz.f184), (171, Go.Proofs.Tryz.f171), (141, Go.Proofs.Tryz.f141), (177, Go.Proofs.Tryz.f177), (191, Go.Proofs.Tryz.f191), (185, Go.Proofs.Tryz.f185), (186, Go.Proofs.Tryz.f186), (175, Go.Proofs.Tryz.f175), (178, Go.Proofs.Tryz.f178), (157, Go.Proofs.Tryz.f157), (153, Go.Proofs.Tryz.f153), (110, Go.Proofs.Tryz.f110), (147, Go.Proofs.Tryz.f147), (114, Go.Proofs.Tryz.f114), (61, Go.Proofs.Tryz.f61), (34, Go.Proofs.Tryz.f34), (152, Go.Proofs.Tryz.f152), (151, Go.Proofs.Tryz.f151), (109, Go.Proofs.Tryz.f109), (176, Go.Proofs.Tryz.f176), (154, Go.Proofs.Tryz.f154), (155, Go.Proofs.Tryz.f155), (111, Go.Proofs.Tryz.f111), (112, Go.Proofs.Tryz.f112), (60, Go.Proofs.Tryz.f60), (19, Go.Proofs.Tryz.f19), (65, Go.Proofs.Tryz.f65), (123, Go.Proofs.Tryz.f123), (64, Go.Proofs.Tryz.f64), (23, Go.Proofs.Tryz.f23), (91, Go.Proofs.Tryz.f91), (36, Go.Proofs.Tryz.f36), (24, Go.Proofs.Tryz.f24), (14, Go.Proofs.Tryz.f14), (70, Go.Proofs.Tryz.f70), (71, Go.Proofs.Tryz.f71), (27, Go.Proofs.Tryz.f27), (72, Go.Proofs.Tryz.f72), (28, Go.Proofs.Tryz.f28), (29, Go.Proofs.Tryz.f29), (55, Go.Proofs.Tryz.f55), (56, Go.Proofs.Tryz.f56), (108, Go.Proofs.Tryz.f108), (107, Go.Proofs.Tryz.f107), (57, Go.Proofs.Tryz.f57), (58, Go.Proofs.Tryz.f58), (59, Go.Proofs.Tryz.f59), (17, Go.Proofs.Tryz.f17), (6, Go.Proofs.Tryz.f6)]
def tmL : List (Nat × (List Sh × List (TypeId × List Sh))) := [(100, ([.bool], [])),
 (101, ([.bool], [])),
 (48, ([.bool], [])),
 (94, ([.bool], [])),
 (41, ([.int .i64], [])),
 (168, ([.bool], [])),
 (99, ([.bool], [])),
 (150, ([.row 0 [.str] 9 16], [])),
 (98, ([.bool], [])),
 (167, ([.bool], [])),
 (166, ([.str, .str, .bool], [])),
 (133, ([.bool], [])),
 (134, ([.bool], [])),
 (135, ([.bool], [])),
 (69, ([.int .i64], [])),
 (42, ([.int .i64], [])),
 (47, ([.bool], [])),
 (102, ([.bool], [])),
 (49, ([.int .i64], [])),
 (13, ([.int .i64], [])),
 (43, ([.int .i64], [])),
 (95, ([.int .i64], [])),
 (148, ([.bool], [])),
 (115, ([.int .i64], [])),
 (96, ([.int .i64], [])),
 (44, ([.int .i64], [])),
 (45, ([.int .i64], [])),
 (149, ([.bool], [])),
 (97, ([.bool], [])),
 (46, ([.int .i64], [])),
 (40, ([.int .i64], [])),
 (12, ([.int .i64], [])),
 (138, ([.row 0 aE.ks 130 32], [])),
 (80, ([.agg [.str, .str, .int .i64, .bool, .int .i64, .int .i64, .str, .int .i64, .row 0 aE.ks 130 32]], [])),
 (81, ([.agg [.int .i64, .row 0 aC.ks 122 128, .row 1 [.int .i64] 3 8, .int .i64]], [])),
 (31, ([.agg [.str, .str, .bool, .int .i64, .int .i64, .int .i64, .int .i64, .row 0 aD.ks 60 32, .row 1 aA.ks 34 112, .int .i64, .row 2 aC.ks 122 128, .row 3 [.int .i64] 3 8, .int .i64, .row 4 [.int .i64] 3 8, .bool, .int .i64, .str, .str, .int .i64, .bool, .int .i64, .int .i64, .str, .int .i64, .row 5 aE.ks 130 32]], [])),
 (163, ([.bool], [])),
 (179, ([.str, .bool], [])),
 (159, ([.str, .bool], [])),
 (193, ([.int .i64], [])),
 (189, ([.int .i64], [])),
 (180, ([.str, .str, .bool], [])),
 (160, ([.str, .str, .bool], [])),
 (139, ([.bool], [])),
 (161, ([.bool], [])),
 (199, ([.int .i64], [])),
 (198, ([.int .i64], [])),
 (190, ([.sl [.str]], [])),
 (181, ([.sl [.str]], [])),
 (162, ([.sl [.str]], [])),
 (126, ([.bool], [])),
 (127, ([.bool], [])),
 (124, ([.str, .str, .bool], [])),
 (125, ([.bool], [(60, aD.shs)])),
 (66, ([.int .i64], [])),
 (164, ([.int .i64], [])),
 (130, ([.int .i64], [])),
 (129, ([.int .i64], [])),
 (128, ([.int .i64, .bool], [])),
 (67, ([.int .i64, .bool], [])),
 (103, ([.row 0 aD.ks 60 32], [])),
 (104, ([.row 0 [.int .i64] 3 8], [])),
 (50, ([.agg [.str, .str, .bool, .int .i64, .int .i64, .int .i64, .int .i64, .row 0 aD.ks 60 32, .row 1 aA.ks 34 112, .int .i64, .row 2 aC.ks 122 128, .row 3 [.int .i64] 3 8, .int .i64, .row 4 [.int .i64] 3 8, .bool, .int .i64, .str, .str, .int .i64, .bool, .int .i64, .int .i64, .str, .int .i64, .row 5 aE.ks 130 32]], [])),
 (68, ([.row 0 aD.ks 60 32], [])),
 (26, ([.agg [.str, .str, .bool, .int .i64, .int .i64, .int .i64, .int .i64, .row 0 aD.ks 60 32, .row 1 aA.ks 34 112, .int .i64, .row 2 aC.ks 122 128, .row 3 [.int .i64] 3 8, .int .i64, .row 4 [.int .i64] 3 8, .bool, .int .i64, .str, .str, .int .i64, .bool, .int .i64, .int .i64, .str, .int .i64, .row 5 aE.ks 130 32], .bool, .int .i64], [])),
 (51, ([aB.sh], [])),
 (106, ([.agg [.str, .str, .int .i64, .bool, .int .i64, .int .i64, .str, .int .i64, .row 0 aE.ks 130 32]], [])),
 (105, ([.row 0 aA.ks 34 112], [])),
 (52, ([.row 0 aA.ks 34 112, .row 1 aA.ks 34 112, .bool], [])),
 (15, ([aB.sh, .bool], [])),
 (113, ([.bool], [])),
 (156, ([.int .i64], [])),
 (169, ([.bool], [])),
 (170, ([.bool], [])),
 (184, ([.bool], [])),
 (171, ([.int .i64], [])),
 (141, ([.int .i64], [])),
 (177, ([.int .i64], [])),
 (191, ([.bool], [])),
 (185, ([.bool], [])),
 (186, ([.bool], [])),
 (175, ([.int .i64, .bool], [])),
 (178, ([.row 0 [.int .i64] 3 8], [])),
 (157, ([.int .i64, .agg [.row 0 [.int .i64] 3 8, .int .i64], .int .i64], [])),
 (153, ([.agg [.str, .str, .int .i64, .bool, .int .i64, .int .i64, .str, .int .i64, .row 0 aE.ks 130 32]], [])),
 (110, ([.agg [.int .i64, .row 0 aC.ks 122 128, .row 1 [.int .i64] 3 8, .int .i64]], [])),
 (147, ([.agg [.int .i64, .int .i64, .bool, .str, .str, .int .i64, .bool, .int .i64, .int .i64, .str, .int .i64, .row 0 aE.ks 130 32, .str, .str, .bool, .int .i64, .int .i64, .int .i64, .bool, .int .i64, .str, .str, .int .i64, .bool, .int .i64, .int .i64, .str, .int .i64, .row 1 aE.ks 130 32, .bool, .int .i64, .row 2 aD.ks 60 32, .row 3 [.str] 9 16, .row 4 [.int .i64] 3 8]], [])),
 (114, ([.agg [.int .i64, .row 0 aC.ks 122 128, .row 1 [.int .i64] 3 8, .int .i64], .agg [.int .i64, .int .i64, .bool, .str, .str, .int .i64, .bool, .int .i64, .int .i64, .str, .int .i64, .row 2 aE.ks 130 32, .str, .str, .bool, .int .i64, .int .i64, .int .i64, .bool, .int .i64, .str, .str, .int .i64, .bool, .int .i64, .int .i64, .str, .int .i64, .row 3 aE.ks 130 32, .bool, .int .i64, .row 4 aD.ks 60 32, .row 5 [.str] 9 16, .row 6 [.int .i64] 3 8], .int .i64], [])),
 (61, ([aB.sh, .row 0 aF.ks 49 416], [])),
 (34, ([aB.sh, .row 0 aF.ks 49 416], [])),
 (152, ([.bool], [(3, [.int .i64])])),
 (151, ([.int .i64], [(3, [.int .i64])])),
 (109, ([.int .i64], [])),
 (176, ([.row 0 [.int .i64] 3 8], [])),
 (154, ([.agg [.row 0 [.int .i64] 3 8, .int .i64], .bool], [])),
 (155, ([.row 0 aC.ks 122 128], [])),
 (111, ([.agg [.int .i64, .row 0 aC.ks 122 128, .row 1 [.int .i64] 3 8, .int .i64]], [])),
 (112, ([.agg [.int .i64, .int .i64, .bool, .str, .str, .int .i64, .bool, .int .i64, .int .i64, .str, .int .i64, .row 0 aE.ks 130 32, .str, .str, .bool, .int .i64, .int .i64, .int .i64, .bool, .int .i64, .str, .str, .int .i64, .bool, .int .i64, .int .i64, .str, .int .i64, .row 1 aE.ks 130 32, .bool, .int .i64, .row 2 aD.ks 60 32, .row 3 [.str] 9 16, .row 4 [.int .i64] 3 8]], [])),
 (60, ([.agg [.int .i64, .row 0 aC.ks 122 128, .row 1 [.int .i64] 3 8, .int .i64], .row 2 aF.ks 49 416, .int .i64], [])),
 (19, ([aB.sh, .row 0 aF.ks 49 416, .int .i64], [])),
 (65, ([.bool], [])),
 (123, ([.int .i64], [])),
 (64, ([.row 0 aA.ks 34 112], [])),
 (23, ([aB.sh], [])),
 (91, ([.row 0 aF.ks 49 416], [])),
 (36, ([aB.sh, .row 0 aF.ks 49 416], [])),
 (24, ([.bool], [])),
 (14, ([.bool], [])),
 (70, ([.int .i64], [])),
 (71, ([.row 0 aD.ks 60 32], [])),
 (27, ([.agg [.str, .str, .bool, .int .i64, .int .i64, .int .i64, .int .i64, .row 0 aD.ks 60 32, .sl aA.ks, .int .i64, .sl aC.ks, .sl [.int .i64], .int .i64, .sl [.int .i64], .bool, .int .i64, .str, .str, .int .i64, .bool, .int .i64, .int .i64, .str, .int .i64, .sl aE.ks], .bool, .int .i64], [])),
 (72, ([.row 0 aD.ks 60 32], [])),
 (28, ([.agg [.str, .str, .bool, .int .i64, .int .i64, .int .i64, .int .i64, .row 0 aD.ks 60 32, .row 1 aA.ks 34 112, .int .i64, .row 2 aC.ks 122 128, .row 3 [.int .i64] 3 8, .int .i64, .row 4 [.int .i64] 3 8, .bool, .int .i64, .str, .str, .int .i64, .bool, .int .i64, .int .i64, .str, .int .i64, .row 5 aE.ks 130 32], .int .i64], [])),
 (29, ([.agg [.str, .str, .bool, .int .i64, .int .i64, .int .i64, .int .i64, .row 0 aD.ks 60 32, .sl aA.ks, .int .i64, .sl aC.ks, .sl [.int .i64], .int .i64, .sl [.int .i64], .bool, .int .i64, .str, .str, .int .i64, .bool, .int .i64, .int .i64, .str, .int .i64, .sl aE.ks], .int .i64], [])),
 (55, ([.bool], [])),
 (56, ([.bool], [])),
 (108, ([.bool], [])),
 (107, ([.bool], [])),
 (57, ([.bool], [])),
 (58, ([.bool], [])),
 (59, ([.bool], [])),
 (17, ([.bool], [])),
 (6, ([.bool], []))]
def mvL : List (Nat × Bool) := [(68, true), (178, true), (61, true), (176, true), (155, true), (64, true), (72, true)]
def naL : List (Nat × List (List (Option (List CK × TypeId × Nat)))) := [(68, [[some (aD.ks, 60, 32)], [], [some (aD.ks, 60, 32)]]), (178, [[some ([.int .i64], 3, 8)], [], [some ([.int .i64], 3, 8)]]), (61, [[], [], [some (aF.ks, 49, 416)]]), (176, [[some ([.int .i64], 3, 8)], [], []]), (155, [[some (aC.ks, 122, 128)], [], []]), (64, [[some (aA.ks, 34, 112)], []]), (72, [[some (aD.ks, 60, 32)], [], []])]
def hlL : List (Nat × List (Nat × Hint)) := [(48, [(4, ⟨[(0, .str), (3, .int .i64)], [], []⟩)]),
 (99, [(2, ⟨[(0, .str), (1, .int .u8), (5, .int .i64)], [], []⟩)]),
 (150, [(4, ⟨[(0, .str), (3, .row 3003 [.str] 9 16), (4, .int .i64), (5, .int .i64)], [], []⟩)]),
 (167, [(5, ⟨[(3, .row 3003 [.str] 9 16), (4, .int .i64)], [], []⟩)]),
 (166, [(5, ⟨[(5, .str), (6, .int .i64)], [], []⟩)]),
 (42, [(4, ⟨[(0, .sl aD.ks), (3, .int .i64)], [], []⟩)]),
 (102, [(4, ⟨[(0, .str), (3, .int .i64)], [], []⟩)]),
 (49, [(4, ⟨[(0, .sl aE.ks), (3, .int .i64)], [], []⟩)]),
 (43, [(4, ⟨[(0, .sl aA.ks), (3, .int .i64)], [], []⟩)]),
 (95, [(4, ⟨[(1, .ptr 1000000000 0), (3, .int .i64)], [(27, aJ.shs)], []⟩)]),
 (148, [(2, ⟨[(1, .int .i64), (2, .ptr 1000000000 0), (5, .int .i64)], [(27, aJ.shs)], []⟩)]),
 (115, [(2, ⟨[(0, .sl aC.ks), (1, .int .i64), (5, .int .i64)], [], []⟩)]),
 (44, [(9, ⟨[(1, .ptr 1000000000 0), (4, .int .i64)], [(29, aG.shs)], []⟩)]),
 (149, [(4, ⟨[(0, .sl aE.ks), (1, .sl aE.ks), (5, .int .i64)], [], []⟩)]),
 (40, [(2, ⟨[(0, .sl [.int .i64]), (3, .int .i64)], [], []⟩)]),
 (139, [(4, ⟨[(15, .it 4000)], [], []⟩)]),
 (161, [(5, ⟨[(3, .int .i64), (15, .it 4000)], [], []⟩)]),
 (198, [(6, ⟨[(0, .str), (1, .str), (5, .int .i64)], [], []⟩)]),
 (190, [(11, ⟨[(0, .str), (1, .str), (2, .int .i64), (3, .int .i64), (9, .row 3009 [.str] 9 16), (10, .int .i64)], [], []⟩)]),
 (126, [(6, ⟨[(3, .sl [.str]), (4, .bool), (15, .sl [.str]), (16, .int .i64), (17, .int .i64)], [], []⟩), (9, ⟨[(3, .sl [.str]), (4, .bool), (5, .int .i64), (6, .str), (15, .sl [.str]), (16, .int .i64), (17, .int .i64), (23, .it 4000)], [], []⟩)]),
 (128, [(3, ⟨[(0, .sl aD.ks), (1, .str), (2, .fn 129 [] []), (8, .int .i64), (9, .int .i64), (10, .int .i64)], [], []⟩)]),
 (50, [(4, ⟨[(1, .ptr 1000000000 0), (2, .ptr 1000000001 0), (3, .row 3003 aA.ks 34 112), (18, .sl aA.ks), (19, .int .i64), (20, .int .i64)], [(38, [.str, .str, .bool, .int .i64, .int .i64, .int .i64, .int .i64, .row 50007 aD.ks 60 32, .sl aA.ks, .int .i64, .sl aC.ks, .sl [.int .i64], .int .i64, .sl [.int .i64], .bool, .int .i64, .str, .str, .int .i64, .bool, .int .i64, .int .i64, .str, .int .i64, .sl aE.ks]), (38, aB.shs)], []⟩), (11, ⟨[(1, .ptr 1000000000 0), (2, .ptr 1000000001 0), (6, .row 3006 aC.ks 122 128), (39, .sl aC.ks), (40, .int .i64), (41, .int .i64)], [(38, [.str, .str, .bool, .int .i64, .int .i64, .int .i64, .int .i64, .row 50007 aD.ks 60 32, .row 50008 aA.ks 34 112, .int .i64, .sl aC.ks, .sl [.int .i64], .int .i64, .sl [.int .i64], .bool, .int .i64, .str, .str, .int .i64, .bool, .int .i64, .int .i64, .str, .int .i64, .sl aE.ks]), (38, aB.shs)], []⟩)]),
 (105, [(3, ⟨[(5, .row 3005 aA.ks 34 112), (13, .sl aA.ks), (14, .int .i64), (15, .int .i64)], [], []⟩)]),
 (169, [(4, ⟨[(9, .it 4000)], [], []⟩)]),
 (184, [(4, ⟨[(0, .str), (3, .int .i64)], [], []⟩)]),
 (171, [(4, ⟨[(0, .sl aE.ks), (8, .sl aE.ks), (9, .int .i64), (10, .int .i64)], [], []⟩)]),
 (175, [(3, ⟨[(0, .sl [.int .i64]), (1, .int .i64), (6, .int .i64), (7, .int .i64), (8, .int .i64)], [], []⟩)]),
 (157, [(5, ⟨[(1, .ptr 1000000000 0), (3, .ptr 1000000001 0), (5, .int .i64), (18, .int .i64), (19, .int .i64)], [(27, aJ.shs), (27, aJ.shs)], []⟩)]),
 (110, [(3, ⟨[(1, .ptr 1000000000 0), (2, .ptr 1000000001 0), (3, .row 3003 aC.ks 122 128), (12, .sl aC.ks), (13, .int .i64), (14, .int .i64)], [(29, aG.shs), (29, aG.shs)], []⟩)]),
 (61, [(1, ⟨[(1, .int .i64), (2, .row 3002 aF.ks 49 416), (3, .ptr 1000000000 0), (6, .ptr 1000000001 0)], [(38, aB.shs), (38, aB.shs)], []⟩)]),
 (151, [(2, ⟨[(0, .sl aC.ks), (1, .fn 152 [] [.ptr 2000000000 0]), (7, .int .i64), (8, .int .i64)], [], [(3, [.int .i64])]⟩)]),
 (123, [(2, ⟨[(0, .sl aA.ks), (1, .fn 65 [] []), (7, .int .i64), (8, .int .i64)], [], []⟩)]),
 (64, [(5, ⟨[(0, .row 3000 aA.ks 34 112), (1, .fn 65 [] []), (5, .int .i64), (6, .int .i64)], [], []⟩)]),
 (91, [(3, ⟨[(1, .ptr 1000000000 0), (3, .row 3003 aF.ks 49 416), (9, .int .i64), (10, .int .i64)], [(29, aG.shs)], []⟩)]),
 (70, [(2, ⟨[(0, .sl aD.ks), (1, .str), (5, .int .i64)], [], []⟩)]),
 (71, [(3, ⟨[(0, .sl aD.ks), (1, .str), (5, .row 3005 aD.ks 60 32), (6, .int .i64)], [], []⟩)]),
 (27, [(10, ⟨[(2, .ptr 1000000000 0), (3, .ptr 1000000001 0), (4, .ptr 1000000002 0), (8, .bool), (9, .row 3009 aD.ks 60 32), (10, .row 3010 aD.ks 60 32), (11, .int .i64)], [(38, aB.shs), (60, aD.shs), (38, aB.shs)], []⟩)]),
 (55, [(4, ⟨[(0, .sl aD.ks), (1, .sl aD.ks), (5, .int .i64)], [], []⟩)]),
 (56, [(4, ⟨[(0, .sl aA.ks), (1, .sl aA.ks), (5, .int .i64)], [], []⟩)]),
 (108, [(4, ⟨[(0, .sl [.int .i64]), (1, .sl [.int .i64]), (5, .int .i64)], [], []⟩)]),
 (57, [(4, ⟨[(2, .ptr 1000000000 0), (3, .ptr 1000000001 0), (5, .int .i64)], [(29, aG.shs), (29, aG.shs)], []⟩)])]
def hrL : List (Nat × List (Nat × Hint)) := [(48, [(3, ⟨[(0, .str)], [], []⟩)]),
 (41, [(3, ⟨[(1, .ptr 1000000000 0)], [(38, aB.shs)], []⟩), (5, ⟨[(1, .ptr 1000000000 0)], [(38, aB.shs)], []⟩)]),
 (167, [(9, ⟨[(3, .row 3003 [.str] 9 16), (4, .int .i64)], [], []⟩)]),
 (166, [(7, ⟨[(5, .str), (6, .int .i64)], [], []⟩), (9, ⟨[(5, .str), (6, .int .i64)], [], []⟩)]),
 (102, [(3, ⟨[(0, .str)], [], []⟩)]),
 (13, [(7, ⟨[(1, .ptr 1000000000 0)], [(34, aA.shs)], []⟩), (9, ⟨[(1, .ptr 1000000000 0)], [(34, aA.shs)], []⟩), (11, ⟨[(1, .ptr 1000000000 0)], [(34, aA.shs)], []⟩)]),
 (96, [(4, ⟨[(5, .ptr 1000000000 0)], [(122, aC.shs)], []⟩)]),
 (44, [(3, ⟨[(1, .ptr 1000000000 0)], [(29, aG.shs)], []⟩)]),
 (139, [(3, ⟨[(0, .str)], [], []⟩), (7, ⟨[(3, .int .i64), (4, .int .i32), (5, .bool), (15, .it 4000)], [], []⟩)]),
 (161, [(3, ⟨[(0, .str)], [], []⟩)]),
 (190, [(7, ⟨[(0, .str), (1, .str), (2, .int .i64), (3, .int .i64)], [], []⟩), (17, ⟨[(0, .str), (9, .row 3009 [.str] 9 16), (10, .int .i64)], [], []⟩)]),
 (26, [(7, ⟨[(2, .ptr 1000000000 0), (3, .ptr 1000000001 0), (4, .ptr 1000000002 0), (8, .int .i64), (9, .bool)], [(38, aB.shs), (60, aD.shs), (38, aB.shs)], []⟩)]),
 (52, [(6, ⟨[(5, .ptr 1000000000 0), (11, .row 3011 aA.ks 34 112)], [(34, aA.shs)], []⟩)]),
 (15, [(4, ⟨[(2, .int .i64), (3, .int .i64), (4, .ptr 1000000000 0), (5, .ptr 1000000001 0), (8, .ptr 1000000002 0), (10, .ptr 1000000003 0)], [(38, aB.shs), (34, aA.shs), (38, aB.shs), (38, [.str, .str, .bool, .int .i64, .int .i64, .int .i64, .int .i64, .row 50307 aD.ks 60 32, .row 50308 aA.ks 34 112, .int .i64, .row 50310 aC.ks 122 128, .row 50311 [.int .i64] 3 8, .int .i64, .row 50313 [.int .i64] 3 8, .bool, .int .i64, .str, .str, .int .i64, .bool, .int .i64, .int .i64, .str, .int .i64, .row 50324 aE.ks 130 32])], []⟩)]),
 (184, [(3, ⟨[(0, .str)], [], []⟩)]),
 (60, [(5, ⟨[(2, .ptr 1000000000 0), (3, .ptr 1000000001 0), (4, .ptr 1000000002 0), (7, .int .i64), (8, .ptr 1000000003 0)], [(29, aG.shs), (49, aF.shs), (29, aG.shs), (122, aC.shs)], []⟩)]),
 (27, [(7, ⟨[(2, .ptr 1000000000 0), (3, .ptr 1000000001 0), (4, .ptr 1000000002 0), (8, .bool)], [(38, aB.shs), (60, aD.shs), (38, aB.shs)], []⟩), (11, ⟨[(2, .ptr 1000000000 0), (3, .ptr 1000000001 0), (4, .ptr 1000000002 0), (8, .bool), (9, .row 3009 aD.ks 60 32), (10, .row 3010 aD.ks 60 32), (11, .int .i64), (43, .row 3009 aD.ks 60 32), (44, .int .i64), (47, .str), (48, .ptr 1000000001 0), (49, .str), (50, .bool)], [(38, aB.shs), (60, aD.shs), (38, aB.shs)], []⟩), (13, ⟨[(2, .ptr 1000000000 0), (3, .ptr 1000000001 0), (4, .ptr 1000000002 0), (8, .bool), (9, .row 3009 aD.ks 60 32), (10, .row 3010 aD.ks 60 32), (11, .int .i64)], [(38, aB.shs), (60, aD.shs), (38, aB.shs)], []⟩)]),
 (57, [(3, ⟨[(2, .ptr 1000000000 0), (3, .ptr 1000000001 0)], [(29, aG.shs), (29, aG.shs)], []⟩)])]
def eqL : List (Nat × List CK) := [(130, [.str, .str])]
def prL : List (Nat × Prim) := [(182, .cmpString), (201, .indexByte), (205, .countByte)]
def lbL : List (Nat × LibK) := [(68, .insert aD.ks 60 32), (178, .insert [.int .i64] 3 8), (176, .spec (afU [.int .i64] 3 8)), (155, .spec (afU aC.ks 122 128)), (72, .spec (afU aD.ks 60 32))]
def SE : Env := { fn := assoc fnL, ty := assoc tyL, tm := assoc tmL, mv := fun f => match assoc mvL f with | some b => b | none => false, eqt := assoc eqL, pv := fun _ => none, hl := fun f r => match assoc hlL f with | some l => assoc l r | none => none, hr := fun f r => match assoc hrL f with | some l => assoc l r | none => none, prim := assoc prL, lib := assoc lbL, na := fun f => match assoc naL f with | some l => l | none => [], cut := fun d t => (Nat.beq d 41 && Nat.beq t 23) }
def hQ : (Bool) → Out := fun r => .ret [.d (.bool r)] [] []
theorem uL : ∀ y z, hQ y = hQ z → y = z := fun y z h => congrArg (fun o => aY (avD (aH 0 (Out.res o)))) h
def iC : (Bool) → Out := fun r => .ret [.d (.bool r)] [] []
theorem abS : ∀ y z, iC y = iC z → y = z := fun y z h => congrArg (fun o => aY (avD (aH 0 (Out.res o)))) h
def cJ : (Bool) → Out := fun r => .ret [.d (.bool r)] [] []
theorem nH : ∀ y z, cJ y = cJ z → y = z := fun y z h => congrArg (fun o => aY (avD (aH 0 (Out.res o)))) h
def kD : (Bool) → Out := fun r => .ret [.d (.bool r)] [] []
theorem rP : ∀ y z, kD y = kD z → y = z := fun y z h => congrArg (fun o => aY (avD (aH 0 (Out.res o)))) h
def eT : (Int) → Out := fun r => .ret [.d (.int .i64 r)] [] []
theorem ac7 : ∀ y z, eT y = eT z → y = z := fun y z h => congrArg (fun o => aL (avD (aH 0 (Out.res o)))) h
def dQ : (Bool) → Out := fun r => .ret [.d (.bool r)] [] []
theorem o9 : ∀ y z, dQ y = dQ z → y = z := fun y z h => congrArg (fun o => aY (avD (aH 0 (Out.res o)))) h
def c9 : (Bool) → Out := fun r => .ret [.d (.bool r)] [] []
theorem lK : ∀ y z, c9 y = c9 z → y = z := fun y z h => congrArg (fun o => aY (avD (aH 0 (Out.res o)))) h
def cQ : ((List Str)) → Out := fun r => .ret [.row 0] [] [⟨[.str], 9, 16, (List.map bG r)⟩]
theorem tH : ∀ y z, cQ y = cQ z → y = z := fun y z h => map_inj aah (congrArg (fun o => bW 0 (Out.rws o)) h)
def dH : (Bool) → Out := fun r => .ret [.d (.bool r)] [] []
theorem uJ : ∀ y z, dH y = dH z → y = z := fun y z h => congrArg (fun o => aY (avD (aH 0 (Out.res o)))) h
def cG : (Bool) → Out := fun r => .ret [.d (.bool r)] [] []
theorem tK : ∀ y z, cG y = cG z → y = z := fun y z h => congrArg (fun o => aY (avD (aH 0 (Out.res o)))) h
def cF : (Str × Str × Bool) → Out := fun r => .ret [.d (.str r.1), .d (.str r.2.1), .d (.bool r.2.2)] [] []
theorem tJ : ∀ y z, cF y = cF z → y = z := fun y z h => Prod.ext (congrArg (fun o => aU (avD (aH 0 (Out.res o)))) h) (Prod.ext (congrArg (fun o => aU (avD (aH 1 (Out.res o)))) h) (congrArg (fun o => aY (avD (aH 2 (Out.res o)))) h))
def gM : (Bool) → Out := fun r => .ret [.d (.bool r)] [] []
theorem abk : ∀ y z, gM y = gM z → y = z := fun y z h => congrArg (fun o => aY (avD (aH 0 (Out.res o)))) h
def hX : (Bool) → Out := fun r => .ret [.d (.bool r)] [] []
theorem ace : ∀ y z, hX y = hX z → y = z := fun y z h => congrArg (fun o => aY (avD (aH 0 (Out.res o)))) h
def gO : (Bool) → Out := fun r => .ret [.d (.bool r)] [] []
theorem abB : ∀ y z, gO y = gO z → y = z := fun y z h => congrArg (fun o => aY (avD (aH 0 (Out.res o)))) h
def fJ : (Int) → Out := fun r => .ret [.d (.int .i64 r)] [] []
theorem vW : ∀ y z, fJ y = fJ z → y = z := fun y z h => congrArg (fun o => aL (avD (aH 0 (Out.res o)))) h
def gE : (Int) → Out := fun r => .ret [.d (.int .i64 r)] [] []
theorem adf : ∀ y z, gE y = gE z → y = z := fun y z h => congrArg (fun o => aL (avD (aH 0 (Out.res o)))) h
def iD : (Bool) → Out := fun r => .ret [.d (.bool r)] [] []
theorem ab3 : ∀ y z, iD y = iD z → y = z := fun y z h => congrArg (fun o => aY (avD (aH 0 (Out.res o)))) h
def fH : (Bool) → Out := fun r => .ret [.d (.bool r)] [] []
theorem adN : ∀ y z, fH y = fH z → y = z := fun y z h => congrArg (fun o => aY (avD (aH 0 (Out.res o)))) h
def fP : (Int) → Out := fun r => .ret [.d (.int .i64 r)] [] []
theorem acs : ∀ y z, fP y = fP z → y = z := fun y z h => congrArg (fun o => aL (avD (aH 0 (Out.res o)))) h
def cA : (Int) → Out := fun r => .ret [.d (.int .i64 r)] [] []
theorem pJ : ∀ y z, cA y = cA z → y = z := fun y z h => congrArg (fun o => aL (avD (aH 0 (Out.res o)))) h
def fM : (Int) → Out := fun r => .ret [.d (.int .i64 r)] [] []
theorem abV : ∀ y z, fM y = fM z → y = z := fun y z h => congrArg (fun o => aL (avD (aH 0 (Out.res o)))) h
def dG : (Int) → Out := fun r => .ret [.d (.int .i64 r)] [] []
theorem uK : ∀ y z, dG y = dG z → y = z := fun y z h => congrArg (fun o => aL (avD (aH 0 (Out.res o)))) h
def gU : (Bool) → Out := fun r => .ret [.d (.bool r)] [] []
theorem ad5 : ∀ y z, gU y = gU z → y = z := fun y z h => congrArg (fun o => aY (avD (aH 0 (Out.res o)))) h
def iQ : (Int) → Out := fun r => .ret [.d (.int .i64 r)] [] []
theorem aeR : ∀ y z, iQ y = iQ z → y = z := fun y z h => congrArg (fun o => aL (avD (aH 0 (Out.res o)))) h
def fY : (Int) → Out := fun r => .ret [.d (.int .i64 r)] [] []
theorem ac5 : ∀ y z, fY y = fY z → y = z := fun y z h => congrArg (fun o => aL (avD (aH 0 (Out.res o)))) h
def eJ : (Int) → Out := fun r => .ret [.d (.int .i64 r)] [] []
theorem ab4 : ∀ y z, eJ y = eJ z → y = z := fun y z h => congrArg (fun o => aL (avD (aH 0 (Out.res o)))) h
def iB : (Int) → Out := fun r => .ret [.d (.int .i64 r)] [] []
theorem ab1 : ∀ y z, iB y = iB z → y = z := fun y z h => congrArg (fun o => aL (avD (aH 0 (Out.res o)))) h
def dM : (Bool) → Out := fun r => .ret [.d (.bool r)] [] []
theorem zE : ∀ y z, dM y = dM z → y = z := fun y z h => congrArg (fun o => aY (avD (aH 0 (Out.res o)))) h
def cI : (Bool) → Out := fun r => .ret [.d (.bool r)] [] []
theorem nC : ∀ y z, cI y = cI z → y = z := fun y z h => congrArg (fun o => aY (avD (aH 0 (Out.res o)))) h
def hY : (Int) → Out := fun r => .ret [.d (.int .i64 r)] [] []
theorem abO : ∀ y z, hY y = hY z → y = z := fun y z h => congrArg (fun o => aL (avD (aH 0 (Out.res o)))) h
def eF : (Int) → Out := fun r => .ret [.d (.int .i64 r)] [] []
theorem ab0 : ∀ y z, eF y = eF z → y = z := fun y z h => congrArg (fun o => aL (avD (aH 0 (Out.res o)))) h
def iA : (Int) → Out := fun r => .ret [.d (.int .i64 r)] [] []
theorem abK : ∀ y z, iA y = iA z → y = z := fun y z h => congrArg (fun o => aL (avD (aH 0 (Out.res o)))) h
def bP : ((List aE)) → Out := fun r => .ret [.row 0] [] [⟨aE.ks, 130, 32, (List.map aE.enc r)⟩]
theorem lZ : ∀ y z, bP y = bP z → y = z := fun y z h => map_inj aE.inj (congrArg (fun o => bW 0 (Out.rws o)) h)
def cW : (aA) → Out := fun r => .ret [.agg [.d (.str r.Topic), .d (.str r.Payload), .d (.int .i64 r.Level), .d (.bool r.Retain), .d (.int .i64 r.Priority), .d (.int .i64 r.Expires), .d (.str r.From), .d (.int .i64 r.Seq), .row 0]] [] [⟨aE.ks, 130, 32, (List.map aE.enc r.Props)⟩]
theorem j7 : ∀ y z, cW y = cW z → y = z := fun y z h => aA.inj (congrArg (fun o => [avD (aH 0 (cellsOf (aH 0 (Out.res o)))), avD (aH 1 (cellsOf (aH 0 (Out.res o)))), avD (aH 2 (cellsOf (aH 0 (Out.res o)))), avD (aH 3 (cellsOf (aH 0 (Out.res o)))), avD (aH 4 (cellsOf (aH 0 (Out.res o)))), avD (aH 5 (cellsOf (aH 0 (Out.res o)))), avD (aH 6 (cellsOf (aH 0 (Out.res o)))), avD (aH 7 (cellsOf (aH 0 (Out.res o)))), D.sl aE.ks (bW 0 (Out.rws o))]) h)
def lY : (aG) → Out := fun r => .ret [.agg [.d (.int .i64 r.Limit), .row 0, .row 1, .d (.int .i64 r.Pool.Last)]] [] [⟨aC.ks, 122, 128, (List.map aC.enc r.Items)⟩, ⟨[.int .i64], 3, 8, (List.map (encI .i64) r.Pool.Used)⟩]
theorem af5 : ∀ y z, lY y = lY z → y = z := fun y z h => aG.inj (congrArg (fun o => [avD (aH 0 (cellsOf (aH 0 (Out.res o)))), D.sl aC.ks (bW 0 (Out.rws o)), D.sl [.int .i64] (bW 1 (Out.rws o)), avD (aH 3 (cellsOf (aH 0 (Out.res o))))]) h)
def mE : (aB) → Out := fun r => .ret [.agg [.d (.str r.Client), .d (.str r.User), .d (.bool r.Online), .d (.int .i64 r.Conn), .d (.int .i64 r.Expiry), .d (.int .i64 r.Until), .d (.int .i64 r.Dropped), .row 0, .row 1, .d (.int .i64 r.Out.Limit), .row 2, .row 3, .d (.int .i64 r.Out.Pool.Last), .row 4, .d (.bool r.Will.Set), .d (.int .i64 r.Will.Delay), .d (.str r.Will.Message.Topic), .d (.str r.Will.Message.Payload), .d (.int .i64 r.Will.Message.Level), .d (.bool r.Will.Message.Retain), .d (.int .i64 r.Will.Message.Priority), .d (.int .i64 r.Will.Message.Expires), .d (.str r.Will.Message.From), .d (.int .i64 r.Will.Message.Seq), .row 5]] [] [⟨aD.ks, 60, 32, (List.map aD.enc r.Subs)⟩, ⟨aA.ks, 34, 112, (List.map aA.enc r.Queue)⟩, ⟨aC.ks, 122, 128, (List.map aC.enc r.Out.Items)⟩, ⟨[.int .i64], 3, 8, (List.map (encI .i64) r.Out.Pool.Used)⟩, ⟨[.int .i64], 3, 8, (List.map (encI .i64) r.In.IDs)⟩, ⟨aE.ks, 130, 32, (List.map aE.enc r.Will.Message.Props)⟩]
theorem ahf : ∀ y z, mE y = mE z → y = z := fun y z h => aB.inj (congrArg (fun o => [avD (aH 0 (cellsOf (aH 0 (Out.res o)))), avD (aH 1 (cellsOf (aH 0 (Out.res o)))), avD (aH 2 (cellsOf (aH 0 (Out.res o)))), avD (aH 3 (cellsOf (aH 0 (Out.res o)))), avD (aH 4 (cellsOf (aH 0 (Out.res o)))), avD (aH 5 (cellsOf (aH 0 (Out.res o)))), avD (aH 6 (cellsOf (aH 0 (Out.res o)))), D.sl aD.ks (bW 0 (Out.rws o)), D.sl aA.ks (bW 1 (Out.rws o)), avD (aH 9 (cellsOf (aH 0 (Out.res o)))), D.sl aC.ks (bW 2 (Out.rws o)), D.sl [.int .i64] (bW 3 (Out.rws o)), avD (aH 12 (cellsOf (aH 0 (Out.res o)))), D.sl [.int .i64] (bW 4 (Out.rws o)), avD (aH 14 (cellsOf (aH 0 (Out.res o)))), avD (aH 15 (cellsOf (aH 0 (Out.res o)))), avD (aH 16 (cellsOf (aH 0 (Out.res o)))), avD (aH 17 (cellsOf (aH 0 (Out.res o)))), avD (aH 18 (cellsOf (aH 0 (Out.res o)))), avD (aH 19 (cellsOf (aH 0 (Out.res o)))), avD (aH 20 (cellsOf (aH 0 (Out.res o)))), avD (aH 21 (cellsOf (aH 0 (Out.res o)))), avD (aH 22 (cellsOf (aH 0 (Out.res o)))), avD (aH 23 (cellsOf (aH 0 (Out.res o)))), D.sl aE.ks (bW 5 (Out.rws o))]) h)
def dA : (Bool) → Out := fun r => .ret [.d (.bool r)] [] []
theorem rK : ∀ y z, dA y = dA z → y = z := fun y z h => congrArg (fun o => aY (avD (aH 0 (Out.res o)))) h
def e9 : (Str × Bool) → Out := fun r => .ret [.d (.str r.1), .d (.bool r.2)] [] []
theorem y8 : ∀ y z, e9 y = e9 z → y = z := fun y z h => Prod.ext (congrArg (fun o => aU (avD (aH 0 (Out.res o)))) h) (congrArg (fun o => aY (avD (aH 1 (Out.res o)))) h)
def hJ : (Str × Bool) → Out := fun r => .ret [.d (.str r.1), .d (.bool r.2)] [] []
theorem abL : ∀ y z, hJ y = hJ z → y = z := fun y z h => Prod.ext (congrArg (fun o => aU (avD (aH 0 (Out.res o)))) h) (congrArg (fun o => aY (avD (aH 1 (Out.res o)))) h)
def eZ : (Int) → Out := fun r => .ret [.d (.int .i64 r)] [] []
theorem y9 : ∀ y z, eZ y = eZ z → y = z := fun y z h => congrArg (fun o => aL (avD (aH 0 (Out.res o)))) h
def eL : (Int) → Out := fun r => .ret [.d (.int .i64 r)] [] []
theorem uP : ∀ y z, eL y = eL z → y = z := fun y z h => congrArg (fun o => aL (avD (aH 0 (Out.res o)))) h
def jR : (Str × Str × Bool) → Out := fun r => .ret [.d (.str r.1), .d (.str r.2.1), .d (.bool r.2.2)] [] []
theorem ad3 : ∀ y z, jR y = jR z → y = z := fun y z h => Prod.ext (congrArg (fun o => aU (avD (aH 0 (Out.res o)))) h) (Prod.ext (congrArg (fun o => aU (avD (aH 1 (Out.res o)))) h) (congrArg (fun o => aY (avD (aH 2 (Out.res o)))) h))
def mG : (Str × Str × Bool) → Out := fun r => .ret [.d (.str r.1), .d (.str r.2.1), .d (.bool r.2.2)] [] []
theorem agw : ∀ y z, mG y = mG z → y = z := fun y z h => Prod.ext (congrArg (fun o => aU (avD (aH 0 (Out.res o)))) h) (Prod.ext (congrArg (fun o => aU (avD (aH 1 (Out.res o)))) h) (congrArg (fun o => aY (avD (aH 2 (Out.res o)))) h))
def eO : (Bool) → Out := fun r => .ret [.d (.bool r)] [] []
theorem abT : ∀ y z, eO y = eO z → y = z := fun y z h => congrArg (fun o => aY (avD (aH 0 (Out.res o)))) h
def fR : (Bool) → Out := fun r => .ret [.d (.bool r)] [] []
theorem aa6 : ∀ y z, fR y = fR z → y = z := fun y z h => congrArg (fun o => aY (avD (aH 0 (Out.res o)))) h
def gQ : (Int) → Out := fun r => .ret [.d (.int .i64 r)] [] []
theorem yR : ∀ y z, gQ y = gQ z → y = z := fun y z h => congrArg (fun o => aL (avD (aH 0 (Out.res o)))) h
def jC : (Int) → Out := fun r => .ret [.d (.int .i64 r)] [] []
theorem afp : ∀ y z, jC y = jC z → y = z := fun y z h => congrArg (fun o => aL (avD (aH 0 (Out.res o)))) h
def dE : ((List Str)) → Out := fun r => .ret [.d (.sl [.str] (List.map bG r))] [] []
theorem acK : ∀ y z, dE y = dE z → y = z := fun y z h => map_inj aah (congrArg (fun o => dSl (avD (aH 0 (Out.res o)))) h)
def kX : ((List Str)) → Out := fun r => .ret [.d (.sl [.str] (List.map bG r))] [] []
theorem afq : ∀ y z, kX y = kX z → y = z := fun y z h => map_inj aah (congrArg (fun o => dSl (avD (aH 0 (Out.res o)))) h)
def lR : ((List Str)) → Out := fun r => .ret [.d (.sl [.str] (List.map bG r))] [] []
theorem agf : ∀ y z, lR y = lR z → y = z := fun y z h => map_inj aah (congrArg (fun o => dSl (avD (aH 0 (Out.res o)))) h)
def dY : (Bool) → Out := fun r => .ret [.d (.bool r)] [] []
theorem aai : ∀ y z, dY y = dY z → y = z := fun y z h => congrArg (fun o => aY (avD (aH 0 (Out.res o)))) h
def eC : (Bool) → Out := fun r => .ret [.d (.bool r)] [] []
theorem uD : ∀ y z, eC y = eC z → y = z := fun y z h => congrArg (fun o => aY (avD (aH 0 (Out.res o)))) h
def lW : (Str × Str × Bool) → Out := fun r => .ret [.d (.str r.1), .d (.str r.2.1), .d (.bool r.2.2)] [] []
theorem afZ : ∀ y z, lW y = lW z → y = z := fun y z h => Prod.ext (congrArg (fun o => aU (avD (aH 0 (Out.res o)))) h) (Prod.ext (congrArg (fun o => aU (avD (aH 1 (Out.res o)))) h) (congrArg (fun o => aY (avD (aH 2 (Out.res o)))) h))
def gL : (Bool × aD) → Out := fun r => .ret [.d (.bool r.1)] [⟨60, (aD.avs r.2)⟩] []
theorem abe : ∀ y z, gL y = gL z → y = z := fun y z h => Prod.ext (congrArg (fun o => aY (avD (aH 0 (Out.res o)))) h) (aD.inj (congrArg (fun o => List.map avD (alX 0 (Out.bxs o))) h))
def iW : (Int) → Out := fun r => .ret [.d (.int .i64 r)] [] []
theorem adz : ∀ y z, iW y = iW z → y = z := fun y z h => congrArg (fun o => aL (avD (aH 0 (Out.res o)))) h
def eY : (Int) → Out := fun r => .ret [.d (.int .i64 r)] [] []
theorem yY : ∀ y z, eY y = eY z → y = z := fun y z h => congrArg (fun o => aL (avD (aH 0 (Out.res o)))) h
def jL : (Int) → Out := fun r => .ret [.d (.int .i64 r)] [] []
theorem adX : ∀ y z, jL y = jL z → y = z := fun y z h => congrArg (fun o => aL (avD (aH 0 (Out.res o)))) h
def kI : (Int) → Out := fun r => .ret [.d (.int .i64 r)] [] []
theorem xT : ∀ y z, kI y = kI z → y = z := fun y z h => congrArg (fun o => aL (avD (aH 0 (Out.res o)))) h
def bI : (Int × Bool) → Out := fun r => .ret [.d (.int .i64 r.1), .d (.bool r.2)] [] []
theorem mB : ∀ y z, bI y = bI z → y = z := fun y z h => Prod.ext (congrArg (fun o => aL (avD (aH 0 (Out.res o)))) h) (congrArg (fun o => aY (avD (aH 1 (Out.res o)))) h)
def iM : (Int × Bool) → Out := fun r => .ret [.d (.int .i64 r.1), .d (.bool r.2)] [] []
theorem aaC : ∀ y z, iM y = iM z → y = z := fun y z h => Prod.ext (congrArg (fun o => aL (avD (aH 0 (Out.res o)))) h) (congrArg (fun o => aY (avD (aH 1 (Out.res o)))) h)
def cP : ((List aD)) → Out := fun r => .ret [.row 0] [] [⟨aD.ks, 60, 32, (List.map aD.enc r)⟩]
theorem sS : ∀ y z, cP y = cP z → y = z := fun y z h => map_inj aD.inj (congrArg (fun o => bW 0 (Out.rws o)) h)
def bN : ((List Int)) → Out := fun r => .ret [.row 0] [] [⟨[.int .i64], 3, 8, (List.map (encI .i64) r)⟩]
theorem fU : ∀ y z, bN y = bN z → y = z := fun y z h => map_inj (wX _) (congrArg (fun o => bW 0 (Out.rws o)) h)
def bM : (aB) → Out := fun r => .ret [.agg [.d (.str r.Client), .d (.str r.User), .d (.bool r.Online), .d (.int .i64 r.Conn), .d (.int .i64 r.Expiry), .d (.int .i64 r.Until), .d (.int .i64 r.Dropped), .row 0, .row 1, .d (.int .i64 r.Out.Limit), .row 2, .row 3, .d (.int .i64 r.Out.Pool.Last), .row 4, .d (.bool r.Will.Set), .d (.int .i64 r.Will.Delay), .d (.str r.Will.Message.Topic), .d (.str r.Will.Message.Payload), .d (.int .i64 r.Will.Message.Level), .d (.bool r.Will.Message.Retain), .d (.int .i64 r.Will.Message.Priority), .d (.int .i64 r.Will.Message.Expires), .d (.str r.Will.Message.From), .d (.int .i64 r.Will.Message.Seq), .row 5]] [] [⟨aD.ks, 60, 32, (List.map aD.enc r.Subs)⟩, ⟨aA.ks, 34, 112, (List.map aA.enc r.Queue)⟩, ⟨aC.ks, 122, 128, (List.map aC.enc r.Out.Items)⟩, ⟨[.int .i64], 3, 8, (List.map (encI .i64) r.Out.Pool.Used)⟩, ⟨[.int .i64], 3, 8, (List.map (encI .i64) r.In.IDs)⟩, ⟨aE.ks, 130, 32, (List.map aE.enc r.Will.Message.Props)⟩]
theorem gP : ∀ y z, bM y = bM z → y = z := fun y z h => aB.inj (congrArg (fun o => [avD (aH 0 (cellsOf (aH 0 (Out.res o)))), avD (aH 1 (cellsOf (aH 0 (Out.res o)))), avD (aH 2 (cellsOf (aH 0 (Out.res o)))), avD (aH 3 (cellsOf (aH 0 (Out.res o)))), avD (aH 4 (cellsOf (aH 0 (Out.res o)))), avD (aH 5 (cellsOf (aH 0 (Out.res o)))), avD (aH 6 (cellsOf (aH 0 (Out.res o)))), D.sl aD.ks (bW 0 (Out.rws o)), D.sl aA.ks (bW 1 (Out.rws o)), avD (aH 9 (cellsOf (aH 0 (Out.res o)))), D.sl aC.ks (bW 2 (Out.rws o)), D.sl [.int .i64] (bW 3 (Out.rws o)), avD (aH 12 (cellsOf (aH 0 (Out.res o)))), D.sl [.int .i64] (bW 4 (Out.rws o)), avD (aH 14 (cellsOf (aH 0 (Out.res o)))), avD (aH 15 (cellsOf (aH 0 (Out.res o)))), avD (aH 16 (cellsOf (aH 0 (Out.res o)))), avD (aH 17 (cellsOf (aH 0 (Out.res o)))), avD (aH 18 (cellsOf (aH 0 (Out.res o)))), avD (aH 19 (cellsOf (aH 0 (Out.res o)))), avD (aH 20 (cellsOf (aH 0 (Out.res o)))), avD (aH 21 (cellsOf (aH 0 (Out.res o)))), avD (aH 22 (cellsOf (aH 0 (Out.res o)))), avD (aH 23 (cellsOf (aH 0 (Out.res o)))), D.sl aE.ks (bW 5 (Out.rws o))]) h)
def cK : ((List aD)) → Out := fun r => .ret [.row 0] [] [⟨aD.ks, 60, 32, (List.map aD.enc r)⟩]
theorem rU : ∀ y z, cK y = cK z → y = z := fun y z h => map_inj aD.inj (congrArg (fun o => bW 0 (Out.rws o)) h)
def cY : (aB × Bool × Int) → Out := fun r => .ret [.agg [.d (.str r.1.Client), .d (.str r.1.User), .d (.bool r.1.Online), .d (.int .i64 r.1.Conn), .d (.int .i64 r.1.Expiry), .d (.int .i64 r.1.Until), .d (.int .i64 r.1.Dropped), .row 0, .row 1, .d (.int .i64 r.1.Out.Limit), .row 2, .row 3, .d (.int .i64 r.1.Out.Pool.Last), .row 4, .d (.bool r.1.Will.Set), .d (.int .i64 r.1.Will.Delay), .d (.str r.1.Will.Message.Topic), .d (.str r.1.Will.Message.Payload), .d (.int .i64 r.1.Will.Message.Level), .d (.bool r.1.Will.Message.Retain), .d (.int .i64 r.1.Will.Message.Priority), .d (.int .i64 r.1.Will.Message.Expires), .d (.str r.1.Will.Message.From), .d (.int .i64 r.1.Will.Message.Seq), .row 5], .d (.bool r.2.1), .d (.int .i64 r.2.2)] [] [⟨aD.ks, 60, 32, (List.map aD.enc r.1.Subs)⟩, ⟨aA.ks, 34, 112, (List.map aA.enc r.1.Queue)⟩, ⟨aC.ks, 122, 128, (List.map aC.enc r.1.Out.Items)⟩, ⟨[.int .i64], 3, 8, (List.map (encI .i64) r.1.Out.Pool.Used)⟩, ⟨[.int .i64], 3, 8, (List.map (encI .i64) r.1.In.IDs)⟩, ⟨aE.ks, 130, 32, (List.map aE.enc r.1.Will.Message.Props)⟩]
theorem uH : ∀ y z, cY y = cY z → y = z := fun y z h => Prod.ext (aB.inj (congrArg (fun o => [avD (aH 0 (cellsOf (aH 0 (Out.res o)))), avD (aH 1 (cellsOf (aH 0 (Out.res o)))), avD (aH 2 (cellsOf (aH 0 (Out.res o)))), avD (aH 3 (cellsOf (aH 0 (Out.res o)))), avD (aH 4 (cellsOf (aH 0 (Out.res o)))), avD (aH 5 (cellsOf (aH 0 (Out.res o)))), avD (aH 6 (cellsOf (aH 0 (Out.res o)))), D.sl aD.ks (bW 0 (Out.rws o)), D.sl aA.ks (bW 1 (Out.rws o)), avD (aH 9 (cellsOf (aH 0 (Out.res o)))), D.sl aC.ks (bW 2 (Out.rws o)), D.sl [.int .i64] (bW 3 (Out.rws o)), avD (aH 12 (cellsOf (aH 0 (Out.res o)))), D.sl [.int .i64] (bW 4 (Out.rws o)), avD (aH 14 (cellsOf (aH 0 (Out.res o)))), avD (aH 15 (cellsOf (aH 0 (Out.res o)))), avD (aH 16 (cellsOf (aH 0 (Out.res o)))), avD (aH 17 (cellsOf (aH 0 (Out.res o)))), avD (aH 18 (cellsOf (aH 0 (Out.res o)))), avD (aH 19 (cellsOf (aH 0 (Out.res o)))), avD (aH 20 (cellsOf (aH 0 (Out.res o)))), avD (aH 21 (cellsOf (aH 0 (Out.res o)))), avD (aH 22 (cellsOf (aH 0 (Out.res o)))), avD (aH 23 (cellsOf (aH 0 (Out.res o)))), D.sl aE.ks (bW 5 (Out.rws o))]) h)) (Prod.ext (congrArg (fun o => aY (avD (aH 1 (Out.res o)))) h) (congrArg (fun o => aL (avD (aH 2 (Out.res o)))) h))
def dI : (aB) → Out := fun r => .ret [aB.av r] [] []
theorem n9 : ∀ y z, dI y = dI z → y = z := fun y z h => aB.inj (congrArg (fun o => List.map avD (cellsOf (aH 0 (Out.res o)))) h)
def jI : (aA) → Out := fun r => .ret [.agg [.d (.str r.Topic), .d (.str r.Payload), .d (.int .i64 r.Level), .d (.bool r.Retain), .d (.int .i64 r.Priority), .d (.int .i64 r.Expires), .d (.str r.From), .d (.int .i64 r.Seq), .row 0]] [] [⟨aE.ks, 130, 32, (List.map aE.enc r.Props)⟩]
theorem oP : ∀ y z, jI y = jI z → y = z := fun y z h => aA.inj (congrArg (fun o => [avD (aH 0 (cellsOf (aH 0 (Out.res o)))), avD (aH 1 (cellsOf (aH 0 (Out.res o)))), avD (aH 2 (cellsOf (aH 0 (Out.res o)))), avD (aH 3 (cellsOf (aH 0 (Out.res o)))), avD (aH 4 (cellsOf (aH 0 (Out.res o)))), avD (aH 5 (cellsOf (aH 0 (Out.res o)))), avD (aH 6 (cellsOf (aH 0 (Out.res o)))), avD (aH 7 (cellsOf (aH 0 (Out.res o)))), D.sl aE.ks (bW 0 (Out.rws o))]) h)
def lS : ((List aA)) → Out := fun r => .ret [.row 0] [] [⟨aA.ks, 34, 112, (List.map aA.enc r)⟩]
theorem ahE : ∀ y z, lS y = lS z → y = z := fun y z h => map_inj aA.inj (congrArg (fun o => bW 0 (Out.rws o)) h)
def jV : ((List aA) × (List aA) × Bool) → Out := fun r => .ret [.row 0, .row 1, .d (.bool r.2.2)] [] [⟨aA.ks, 34, 112, (List.map aA.enc r.1)⟩, ⟨aA.ks, 34, 112, (List.map aA.enc r.2.1)⟩]
theorem ai0 : ∀ y z, jV y = jV z → y = z := fun y z h => Prod.ext (map_inj aA.inj (congrArg (fun o => bW 0 (Out.rws o)) h)) (Prod.ext (map_inj aA.inj (congrArg (fun o => bW 1 (Out.rws o)) h)) (congrArg (fun o => aY (avD (aH 2 (Out.res o)))) h))
def jG : (aB × Bool) → Out := fun r => .ret [aB.av r.1, .d (.bool r.2)] [] []
theorem yQ : ∀ y z, jG y = jG z → y = z := fun y z h => Prod.ext (aB.inj (congrArg (fun o => List.map avD (cellsOf (aH 0 (Out.res o)))) h)) (congrArg (fun o => aY (avD (aH 1 (Out.res o)))) h)
def jS : (Bool) → Out := fun r => .ret [.d (.bool r)] [] []
theorem adQ : ∀ y z, jS y = jS z → y = z := fun y z h => congrArg (fun o => aY (avD (aH 0 (Out.res o)))) h
def jD : (Int) → Out := fun r => .ret [.d (.int .i64 r)] [] []
theorem aft : ∀ y z, jD y = jD z → y = z := fun y z h => congrArg (fun o => aL (avD (aH 0 (Out.res o)))) h
def kQ : (Bool) → Out := fun r => .ret [.d (.bool r)] [] []
theorem ag6 : ∀ y z, kQ y = kQ z → y = z := fun y z h => congrArg (fun o => aY (avD (aH 0 (Out.res o)))) h
def nP : (Bool) → Out := fun r => .ret [.d (.bool r)] [] []
theorem pQ : ∀ y z, nP y = nP z → y = z := fun y z h => congrArg (fun o => aY (avD (aH 0 (Out.res o)))) h
def jK : (Bool) → Out := fun r => .ret [.d (.bool r)] [] []
theorem ahy : ∀ y z, jK y = jK z → y = z := fun y z h => congrArg (fun o => aY (avD (aH 0 (Out.res o)))) h
def jF : (Int) → Out := fun r => .ret [.d (.int .i64 r)] [] []
theorem yT : ∀ y z, jF y = jF z → y = z := fun y z h => congrArg (fun o => aL (avD (aH 0 (Out.res o)))) h
def k7 : (Int) → Out := fun r => .ret [.d (.int .i64 r)] [] []
theorem afs : ∀ y z, k7 y = k7 z → y = z := fun y z h => congrArg (fun o => aL (avD (aH 0 (Out.res o)))) h
def nO : (Int) → Out := fun r => .ret [.d (.int .i64 r)] [] []
theorem ah4 : ∀ y z, nO y = nO z → y = z := fun y z h => congrArg (fun o => aL (avD (aH 0 (Out.res o)))) h
def kB : (Bool) → Out := fun r => .ret [.d (.bool r)] [] []
theorem xD : ∀ y z, kB y = kB z → y = z := fun y z h => congrArg (fun o => aY (avD (aH 0 (Out.res o)))) h
def kR : (Bool) → Out := fun r => .ret [.d (.bool r)] [] []
theorem afv : ∀ y z, kR y = kR z → y = z := fun y z h => congrArg (fun o => aY (avD (aH 0 (Out.res o)))) h
def hZ : (Bool) → Out := fun r => .ret [.d (.bool r)] [] []
theorem uG : ∀ y z, hZ y = hZ z → y = z := fun y z h => congrArg (fun o => aY (avD (aH 0 (Out.res o)))) h
def bO : (Int × Bool) → Out := fun r => .ret [.d (.int .i64 r.1), .d (.bool r.2)] [] []
theorem mX : ∀ y z, bO y = bO z → y = z := fun y z h => Prod.ext (congrArg (fun o => aL (avD (aH 0 (Out.res o)))) h) (congrArg (fun o => aY (avD (aH 1 (Out.res o)))) h)
def dS : ((List Int)) → Out := fun r => .ret [.row 0] [] [⟨[.int .i64], 3, 8, (List.map (encI .i64) r)⟩]
theorem wF : ∀ y z, dS y = dS z → y = z := fun y z h => map_inj (wX _) (congrArg (fun o => bW 0 (Out.rws o)) h)
def lT : (Int × aJ × Int) → Out := fun r => .ret [.d (.int .i64 r.1), .agg [.row 0, .d (.int .i64 r.2.1.Last)], .d (.int .i64 r.2.2)] [] [⟨[.int .i64], 3, 8, (List.map (encI .i64) r.2.1.Used)⟩]
theorem ahS : ∀ y z, lT y = lT z → y = z := fun y z h => Prod.ext (congrArg (fun o => aL (avD (aH 0 (Out.res o)))) h) (Prod.ext (aJ.inj (congrArg (fun o => [D.sl [.int .i64] (bW 0 (Out.rws o)), avD (aH 1 (cellsOf (aH 1 (Out.res o))))]) h)) (congrArg (fun o => aL (avD (aH 2 (Out.res o)))) h))
def dJ : (aA) → Out := fun r => .ret [.agg [.d (.str r.Topic), .d (.str r.Payload), .d (.int .i64 r.Level), .d (.bool r.Retain), .d (.int .i64 r.Priority), .d (.int .i64 r.Expires), .d (.str r.From), .d (.int .i64 r.Seq), .row 0]] [] [⟨aE.ks, 130, 32, (List.map aE.enc r.Props)⟩]
theorem rC : ∀ y z, dJ y = dJ z → y = z := fun y z h => aA.inj (congrArg (fun o => [avD (aH 0 (cellsOf (aH 0 (Out.res o)))), avD (aH 1 (cellsOf (aH 0 (Out.res o)))), avD (aH 2 (cellsOf (aH 0 (Out.res o)))), avD (aH 3 (cellsOf (aH 0 (Out.res o)))), avD (aH 4 (cellsOf (aH 0 (Out.res o)))), avD (aH 5 (cellsOf (aH 0 (Out.res o)))), avD (aH 6 (cellsOf (aH 0 (Out.res o)))), avD (aH 7 (cellsOf (aH 0 (Out.res o)))), D.sl aE.ks (bW 0 (Out.rws o))]) h)
def dF : (aG) → Out := fun r => .ret [.agg [.d (.int .i64 r.Limit), .row 0, .row 1, .d (.int .i64 r.Pool.Last)]] [] [⟨aC.ks, 122, 128, (List.map aC.enc r.Items)⟩, ⟨[.int .i64], 3, 8, (List.map (encI .i64) r.Pool.Used)⟩]
theorem j2 : ∀ y z, dF y = dF z → y = z := fun y z h => aG.inj (congrArg (fun o => [avD (aH 0 (cellsOf (aH 0 (Out.res o)))), D.sl aC.ks (bW 0 (Out.rws o)), D.sl [.int .i64] (bW 1 (Out.rws o)), avD (aH 3 (cellsOf (aH 0 (Out.res o))))]) h)
def eS : (aF) → Out := fun r => .ret [.agg [.d (.int .i64 r.Kind), .d (.int .i64 r.ID), .d (.bool r.Dup), .d (.str r.Message.Topic), .d (.str r.Message.Payload), .d (.int .i64 r.Message.Level), .d (.bool r.Message.Retain), .d (.int .i64 r.Message.Priority), .d (.int .i64 r.Message.Expires), .d (.str r.Message.From), .d (.int .i64 r.Message.Seq), .row 0, .d (.str r.Client), .d (.str r.User), .d (.bool r.Clean), .d (.int .i64 r.Keep), .d (.int .i64 r.Expiry), .d (.int .i64 r.Window), .d (.bool r.Will.Set), .d (.int .i64 r.Will.Delay), .d (.str r.Will.Message.Topic), .d (.str r.Will.Message.Payload), .d (.int .i64 r.Will.Message.Level), .d (.bool r.Will.Message.Retain), .d (.int .i64 r.Will.Message.Priority), .d (.int .i64 r.Will.Message.Expires), .d (.str r.Will.Message.From), .d (.int .i64 r.Will.Message.Seq), .row 1, .d (.bool r.Present), .d (.int .i64 r.Code), .row 2, .row 3, .row 4]] [] [⟨aE.ks, 130, 32, (List.map aE.enc r.Message.Props)⟩, ⟨aE.ks, 130, 32, (List.map aE.enc r.Will.Message.Props)⟩, ⟨aD.ks, 60, 32, (List.map aD.enc r.Subs)⟩, ⟨[.str], 9, 16, (List.map bG r.Filters)⟩, ⟨[.int .i64], 3, 8, (List.map (encI .i64) r.Codes)⟩]
theorem vF : ∀ y z, eS y = eS z → y = z := fun y z h => aF.inj (congrArg (fun o => [avD (aH 0 (cellsOf (aH 0 (Out.res o)))), avD (aH 1 (cellsOf (aH 0 (Out.res o)))), avD (aH 2 (cellsOf (aH 0 (Out.res o)))), avD (aH 3 (cellsOf (aH 0 (Out.res o)))), avD (aH 4 (cellsOf (aH 0 (Out.res o)))), avD (aH 5 (cellsOf (aH 0 (Out.res o)))), avD (aH 6 (cellsOf (aH 0 (Out.res o)))), avD (aH 7 (cellsOf (aH 0 (Out.res o)))), avD (aH 8 (cellsOf (aH 0 (Out.res o)))), avD (aH 9 (cellsOf (aH 0 (Out.res o)))), avD (aH 10 (cellsOf (aH 0 (Out.res o)))), D.sl aE.ks (bW 0 (Out.rws o)), avD (aH 12 (cellsOf (aH 0 (Out.res o)))), avD (aH 13 (cellsOf (aH 0 (Out.res o)))), avD (aH 14 (cellsOf (aH 0 (Out.res o)))), avD (aH 15 (cellsOf (aH 0 (Out.res o)))), avD (aH 16 (cellsOf (aH 0 (Out.res o)))), avD (aH 17 (cellsOf (aH 0 (Out.res o)))), avD (aH 18 (cellsOf (aH 0 (Out.res o)))), avD (aH 19 (cellsOf (aH 0 (Out.res o)))), avD (aH 20 (cellsOf (aH 0 (Out.res o)))), avD (aH 21 (cellsOf (aH 0 (Out.res o)))), avD (aH 22 (cellsOf (aH 0 (Out.res o)))), avD (aH 23 (cellsOf (aH 0 (Out.res o)))), avD (aH 24 (cellsOf (aH 0 (Out.res o)))), avD (aH 25 (cellsOf (aH 0 (Out.res o)))), avD (aH 26 (cellsOf (aH 0 (Out.res o)))), avD (aH 27 (cellsOf (aH 0 (Out.res o)))), D.sl aE.ks (bW 1 (Out.rws o)), avD (aH 29 (cellsOf (aH 0 (Out.res o)))), avD (aH 30 (cellsOf (aH 0 (Out.res o)))), D.sl aD.ks (bW 2 (Out.rws o)), D.sl [.str] (bW 3 (Out.rws o)), D.sl [.int .i64] (bW 4 (Out.rws o))]) h)
def iO : (aG × aF × Int) → Out := fun r => .ret [.agg [.d (.int .i64 r.1.Limit), .row 0, .row 1, .d (.int .i64 r.1.Pool.Last)], .agg [.d (.int .i64 r.2.1.Kind), .d (.int .i64 r.2.1.ID), .d (.bool r.2.1.Dup), .d (.str r.2.1.Message.Topic), .d (.str r.2.1.Message.Payload), .d (.int .i64 r.2.1.Message.Level), .d (.bool r.2.1.Message.Retain), .d (.int .i64 r.2.1.Message.Priority), .d (.int .i64 r.2.1.Message.Expires), .d (.str r.2.1.Message.From), .d (.int .i64 r.2.1.Message.Seq), .row 2, .d (.str r.2.1.Client), .d (.str r.2.1.User), .d (.bool r.2.1.Clean), .d (.int .i64 r.2.1.Keep), .d (.int .i64 r.2.1.Expiry), .d (.int .i64 r.2.1.Window), .d (.bool r.2.1.Will.Set), .d (.int .i64 r.2.1.Will.Delay), .d (.str r.2.1.Will.Message.Topic), .d (.str r.2.1.Will.Message.Payload), .d (.int .i64 r.2.1.Will.Message.Level), .d (.bool r.2.1.Will.Message.Retain), .d (.int .i64 r.2.1.Will.Message.Priority), .d (.int .i64 r.2.1.Will.Message.Expires), .d (.str r.2.1.Will.Message.From), .d (.int .i64 r.2.1.Will.Message.Seq), .row 3, .d (.bool r.2.1.Present), .d (.int .i64 r.2.1.Code), .row 4, .row 5, .row 6], .d (.int .i64 r.2.2)] [] [⟨aC.ks, 122, 128, (List.map aC.enc r.1.Items)⟩, ⟨[.int .i64], 3, 8, (List.map (encI .i64) r.1.Pool.Used)⟩, ⟨aE.ks, 130, 32, (List.map aE.enc r.2.1.Message.Props)⟩, ⟨aE.ks, 130, 32, (List.map aE.enc r.2.1.Will.Message.Props)⟩, ⟨aD.ks, 60, 32, (List.map aD.enc r.2.1.Subs)⟩, ⟨[.str], 9, 16, (List.map bG r.2.1.Filters)⟩, ⟨[.int .i64], 3, 8, (List.map (encI .i64) r.2.1.Codes)⟩]
theorem aeq : ∀ y z, iO y = iO z → y = z := fun y z h => Prod.ext (aG.inj (congrArg (fun o => [avD (aH 0 (cellsOf (aH 0 (Out.res o)))), D.sl aC.ks (bW 0 (Out.rws o)), D.sl [.int .i64] (bW 1 (Out.rws o)), avD (aH 3 (cellsOf (aH 0 (Out.res o))))]) h)) (Prod.ext (aF.inj (congrArg (fun o => [avD (aH 0 (cellsOf (aH 1 (Out.res o)))), avD (aH 1 (cellsOf (aH 1 (Out.res o)))), avD (aH 2 (cellsOf (aH 1 (Out.res o)))), avD (aH 3 (cellsOf (aH 1 (Out.res o)))), avD (aH 4 (cellsOf (aH 1 (Out.res o)))), avD (aH 5 (cellsOf (aH 1 (Out.res o)))), avD (aH 6 (cellsOf (aH 1 (Out.res o)))), avD (aH 7 (cellsOf (aH 1 (Out.res o)))), avD (aH 8 (cellsOf (aH 1 (Out.res o)))), avD (aH 9 (cellsOf (aH 1 (Out.res o)))), avD (aH 10 (cellsOf (aH 1 (Out.res o)))), D.sl aE.ks (bW 2 (Out.rws o)), avD (aH 12 (cellsOf (aH 1 (Out.res o)))), avD (aH 13 (cellsOf (aH 1 (Out.res o)))), avD (aH 14 (cellsOf (aH 1 (Out.res o)))), avD (aH 15 (cellsOf (aH 1 (Out.res o)))), avD (aH 16 (cellsOf (aH 1 (Out.res o)))), avD (aH 17 (cellsOf (aH 1 (Out.res o)))), avD (aH 18 (cellsOf (aH 1 (Out.res o)))), avD (aH 19 (cellsOf (aH 1 (Out.res o)))), avD (aH 20 (cellsOf (aH 1 (Out.res o)))), avD (aH 21 (cellsOf (aH 1 (Out.res o)))), avD (aH 22 (cellsOf (aH 1 (Out.res o)))), avD (aH 23 (cellsOf (aH 1 (Out.res o)))), avD (aH 24 (cellsOf (aH 1 (Out.res o)))), avD (aH 25 (cellsOf (aH 1 (Out.res o)))), avD (aH 26 (cellsOf (aH 1 (Out.res o)))), avD (aH 27 (cellsOf (aH 1 (Out.res o)))), D.sl aE.ks (bW 3 (Out.rws o)), avD (aH 29 (cellsOf (aH 1 (Out.res o)))), avD (aH 30 (cellsOf (aH 1 (Out.res o)))), D.sl aD.ks (bW 4 (Out.rws o)), D.sl [.str] (bW 5 (Out.rws o)), D.sl [.int .i64] (bW 6 (Out.rws o))]) h)) (congrArg (fun o => aL (avD (aH 2 (Out.res o)))) h))
def dX : (aB × (List aF)) → Out := fun r => .ret [aB.av r.1, .row 0] [] [⟨aF.ks, 49, 416, (List.map aF.enc r.2)⟩]
theorem tY : ∀ y z, dX y = dX z → y = z := fun y z h => Prod.ext (aB.inj (congrArg (fun o => List.map avD (cellsOf (aH 0 (Out.res o)))) h)) (map_inj aF.inj (congrArg (fun o => bW 0 (Out.rws o)) h))
def lQ : (aB × (List aF)) → Out := fun r => .ret [aB.av r.1, .row 0] [] [⟨aF.ks, 49, 416, (List.map aF.enc r.2)⟩]
theorem agd : ∀ y z, lQ y = lQ z → y = z := fun y z h => Prod.ext (aB.inj (congrArg (fun o => List.map avD (cellsOf (aH 0 (Out.res o)))) h)) (map_inj aF.inj (congrArg (fun o => bW 0 (Out.rws o)) h))
def jQ : (Bool × Int) → Out := fun r => .ret [.d (.bool r.1)] [⟨3, [.d (.int .i64 r.2)]⟩] []
theorem ad4 : ∀ y z, jQ y = jQ z → y = z := fun y z h => Prod.ext (congrArg (fun o => aY (avD (aH 0 (Out.res o)))) h) (congrArg (fun o => aL (avD (aH 0 (alX 0 (Out.bxs o))))) h)
def bL : (Int × Int) → Out := fun r => .ret [.d (.int .i64 r.1)] [⟨3, [.d (.int .i64 r.2)]⟩] []
theorem o5 : ∀ y z, bL y = bL z → y = z := fun y z h => Prod.ext (congrArg (fun o => aL (avD (aH 0 (Out.res o)))) h) (congrArg (fun o => aL (avD (aH 0 (alX 0 (Out.bxs o))))) h)
def kS : (Int) → Out := fun r => .ret [.d (.int .i64 r)] [] []
theorem afy : ∀ y z, kS y = kS z → y = z := fun y z h => congrArg (fun o => aL (avD (aH 0 (Out.res o)))) h
def dU : ((List Int)) → Out := fun r => .ret [.row 0] [] [⟨[.int .i64], 3, 8, (List.map (encI .i64) r)⟩]
theorem wT : ∀ y z, dU y = dU z → y = z := fun y z h => map_inj (wX _) (congrArg (fun o => bW 0 (Out.rws o)) h)
def nN : (aJ × Bool) → Out := fun r => .ret [.agg [.row 0, .d (.int .i64 r.1.Last)], .d (.bool r.2)] [] [⟨[.int .i64], 3, 8, (List.map (encI .i64) r.1.Used)⟩]
theorem aie : ∀ y z, nN y = nN z → y = z := fun y z h => Prod.ext (aJ.inj (congrArg (fun o => [D.sl [.int .i64] (bW 0 (Out.rws o)), avD (aH 1 (cellsOf (aH 0 (Out.res o))))]) h)) (congrArg (fun o => aY (avD (aH 1 (Out.res o)))) h)
def bZ : ((List aC)) → Out := fun r => .ret [.row 0] [] [⟨aC.ks, 122, 128, (List.map aC.enc r)⟩]
theorem pI : ∀ y z, bZ y = bZ z → y = z := fun y z h => map_inj aC.inj (congrArg (fun o => bW 0 (Out.rws o)) h)
def jN : (aG) → Out := fun r => .ret [.agg [.d (.int .i64 r.Limit), .row 0, .row 1, .d (.int .i64 r.Pool.Last)]] [] [⟨aC.ks, 122, 128, (List.map aC.enc r.Items)⟩, ⟨[.int .i64], 3, 8, (List.map (encI .i64) r.Pool.Used)⟩]
theorem v7 : ∀ y z, jN y = jN z → y = z := fun y z h => aG.inj (congrArg (fun o => [avD (aH 0 (cellsOf (aH 0 (Out.res o)))), D.sl aC.ks (bW 0 (Out.rws o)), D.sl [.int .i64] (bW 1 (Out.rws o)), avD (aH 3 (cellsOf (aH 0 (Out.res o))))]) h)
def fG : (aF) → Out := fun r => .ret [.agg [.d (.int .i64 r.Kind), .d (.int .i64 r.ID), .d (.bool r.Dup), .d (.str r.Message.Topic), .d (.str r.Message.Payload), .d (.int .i64 r.Message.Level), .d (.bool r.Message.Retain), .d (.int .i64 r.Message.Priority), .d (.int .i64 r.Message.Expires), .d (.str r.Message.From), .d (.int .i64 r.Message.Seq), .row 0, .d (.str r.Client), .d (.str r.User), .d (.bool r.Clean), .d (.int .i64 r.Keep), .d (.int .i64 r.Expiry), .d (.int .i64 r.Window), .d (.bool r.Will.Set), .d (.int .i64 r.Will.Delay), .d (.str r.Will.Message.Topic), .d (.str r.Will.Message.Payload), .d (.int .i64 r.Will.Message.Level), .d (.bool r.Will.Message.Retain), .d (.int .i64 r.Will.Message.Priority), .d (.int .i64 r.Will.Message.Expires), .d (.str r.Will.Message.From), .d (.int .i64 r.Will.Message.Seq), .row 1, .d (.bool r.Present), .d (.int .i64 r.Code), .row 2, .row 3, .row 4]] [] [⟨aE.ks, 130, 32, (List.map aE.enc r.Message.Props)⟩, ⟨aE.ks, 130, 32, (List.map aE.enc r.Will.Message.Props)⟩, ⟨aD.ks, 60, 32, (List.map aD.enc r.Subs)⟩, ⟨[.str], 9, 16, (List.map bG r.Filters)⟩, ⟨[.int .i64], 3, 8, (List.map (encI .i64) r.Codes)⟩]
theorem rA : ∀ y z, fG y = fG z → y = z := fun y z h => aF.inj (congrArg (fun o => [avD (aH 0 (cellsOf (aH 0 (Out.res o)))), avD (aH 1 (cellsOf (aH 0 (Out.res o)))), avD (aH 2 (cellsOf (aH 0 (Out.res o)))), avD (aH 3 (cellsOf (aH 0 (Out.res o)))), avD (aH 4 (cellsOf (aH 0 (Out.res o)))), avD (aH 5 (cellsOf (aH 0 (Out.res o)))), avD (aH 6 (cellsOf (aH 0 (Out.res o)))), avD (aH 7 (cellsOf (aH 0 (Out.res o)))), avD (aH 8 (cellsOf (aH 0 (Out.res o)))), avD (aH 9 (cellsOf (aH 0 (Out.res o)))), avD (aH 10 (cellsOf (aH 0 (Out.res o)))), D.sl aE.ks (bW 0 (Out.rws o)), avD (aH 12 (cellsOf (aH 0 (Out.res o)))), avD (aH 13 (cellsOf (aH 0 (Out.res o)))), avD (aH 14 (cellsOf (aH 0 (Out.res o)))), avD (aH 15 (cellsOf (aH 0 (Out.res o)))), avD (aH 16 (cellsOf (aH 0 (Out.res o)))), avD (aH 17 (cellsOf (aH 0 (Out.res o)))), avD (aH 18 (cellsOf (aH 0 (Out.res o)))), avD (aH 19 (cellsOf (aH 0 (Out.res o)))), avD (aH 20 (cellsOf (aH 0 (Out.res o)))), avD (aH 21 (cellsOf (aH 0 (Out.res o)))), avD (aH 22 (cellsOf (aH 0 (Out.res o)))), avD (aH 23 (cellsOf (aH 0 (Out.res o)))), avD (aH 24 (cellsOf (aH 0 (Out.res o)))), avD (aH 25 (cellsOf (aH 0 (Out.res o)))), avD (aH 26 (cellsOf (aH 0 (Out.res o)))), avD (aH 27 (cellsOf (aH 0 (Out.res o)))), D.sl aE.ks (bW 1 (Out.rws o)), avD (aH 29 (cellsOf (aH 0 (Out.res o)))), avD (aH 30 (cellsOf (aH 0 (Out.res o)))), D.sl aD.ks (bW 2 (Out.rws o)), D.sl [.str] (bW 3 (Out.rws o)), D.sl [.int .i64] (bW 4 (Out.rws o))]) h)
def fF : (aG × (List aF) × Int) → Out := fun r => .ret [.agg [.d (.int .i64 r.1.Limit), .row 0, .row 1, .d (.int .i64 r.1.Pool.Last)], .row 2, .d (.int .i64 r.2.2)] [] [⟨aC.ks, 122, 128, (List.map aC.enc r.1.Items)⟩, ⟨[.int .i64], 3, 8, (List.map (encI .i64) r.1.Pool.Used)⟩, ⟨aF.ks, 49, 416, (List.map aF.enc r.2.1)⟩]
theorem adT : ∀ y z, fF y = fF z → y = z := fun y z h => Prod.ext (aG.inj (congrArg (fun o => [avD (aH 0 (cellsOf (aH 0 (Out.res o)))), D.sl aC.ks (bW 0 (Out.rws o)), D.sl [.int .i64] (bW 1 (Out.rws o)), avD (aH 3 (cellsOf (aH 0 (Out.res o))))]) h)) (Prod.ext (map_inj aF.inj (congrArg (fun o => bW 2 (Out.rws o)) h)) (congrArg (fun o => aL (avD (aH 2 (Out.res o)))) h))
def kG : (aB × (List aF) × Int) → Out := fun r => .ret [aB.av r.1, .row 0, .d (.int .i64 r.2.2)] [] [⟨aF.ks, 49, 416, (List.map aF.enc r.2.1)⟩]
theorem aeT : ∀ y z, kG y = kG z → y = z := fun y z h => Prod.ext (aB.inj (congrArg (fun o => List.map avD (cellsOf (aH 0 (Out.res o)))) h)) (Prod.ext (map_inj aF.inj (congrArg (fun o => bW 0 (Out.rws o)) h)) (congrArg (fun o => aL (avD (aH 2 (Out.res o)))) h))
def eB : (Bool) → Out := fun r => .ret [.d (.bool r)] [] []
theorem uB : ∀ y z, eB y = eB z → y = z := fun y z h => congrArg (fun o => aY (avD (aH 0 (Out.res o)))) h
def bJ : (Int) → Out := fun r => .ret [.d (.int .i64 r)] [] []
theorem oG : ∀ y z, bJ y = bJ z → y = z := fun y z h => congrArg (fun o => aL (avD (aH 0 (Out.res o)))) h
def bH : ((List aA)) → Out := fun r => .ret [.row 0] [] [⟨aA.ks, 34, 112, (List.map aA.enc r)⟩]
theorem nW : ∀ y z, bH y = bH z → y = z := fun y z h => map_inj aA.inj (congrArg (fun o => bW 0 (Out.rws o)) h)
def jM : (aB) → Out := fun r => .ret [aB.av r] [] []
theorem adS : ∀ y z, jM y = jM z → y = z := fun y z h => aB.inj (congrArg (fun o => List.map avD (cellsOf (aH 0 (Out.res o)))) h)
def g6 : ((List aF)) → Out := fun r => .ret [.row 0] [] [⟨aF.ks, 49, 416, (List.map aF.enc r)⟩]
theorem adY : ∀ y z, g6 y = g6 z → y = z := fun y z h => map_inj aF.inj (congrArg (fun o => bW 0 (Out.rws o)) h)
def kA : (aB × (List aF)) → Out := fun r => .ret [aB.av r.1, .row 0] [] [⟨aF.ks, 49, 416, (List.map aF.enc r.2)⟩]
theorem aek : ∀ y z, kA y = kA z → y = z := fun y z h => Prod.ext (aB.inj (congrArg (fun o => List.map avD (cellsOf (aH 0 (Out.res o)))) h)) (map_inj aF.inj (congrArg (fun o => bW 0 (Out.rws o)) h))
def jT : (Bool) → Out := fun r => .ret [.d (.bool r)] [] []
theorem vZ : ∀ y z, jT y = jT z → y = z := fun y z h => congrArg (fun o => aY (avD (aH 0 (Out.res o)))) h
def fN : (Bool) → Out := fun r => .ret [.d (.bool r)] [] []
theorem uQ : ∀ y z, fN y = fN z → y = z := fun y z h => congrArg (fun o => aY (avD (aH 0 (Out.res o)))) h
def eP : (Int) → Out := fun r => .ret [.d (.int .i64 r)] [] []
theorem xL : ∀ y z, eP y = eP z → y = z := fun y z h => congrArg (fun o => aL (avD (aH 0 (Out.res o)))) h
def c7 : ((List aD)) → Out := fun r => .ret [.row 0] [] [⟨aD.ks, 60, 32, (List.map aD.enc r)⟩]
theorem sY : ∀ y z, c7 y = c7 z → y = z := fun y z h => map_inj aD.inj (congrArg (fun o => bW 0 (Out.rws o)) h)
def bT : (aB × Bool × Int) → Out := fun r => .ret [.agg [.d (.str r.1.Client), .d (.str r.1.User), .d (.bool r.1.Online), .d (.int .i64 r.1.Conn), .d (.int .i64 r.1.Expiry), .d (.int .i64 r.1.Until), .d (.int .i64 r.1.Dropped), .row 0, .d (.sl aA.ks (List.map aA.enc r.1.Queue)), .d (.int .i64 r.1.Out.Limit), .d (.sl aC.ks (List.map aC.enc r.1.Out.Items)), .d (.sl [.int .i64] (List.map (encI .i64) r.1.Out.Pool.Used)), .d (.int .i64 r.1.Out.Pool.Last), .d (.sl [.int .i64] (List.map (encI .i64) r.1.In.IDs)), .d (.bool r.1.Will.Set), .d (.int .i64 r.1.Will.Delay), .d (.str r.1.Will.Message.Topic), .d (.str r.1.Will.Message.Payload), .d (.int .i64 r.1.Will.Message.Level), .d (.bool r.1.Will.Message.Retain), .d (.int .i64 r.1.Will.Message.Priority), .d (.int .i64 r.1.Will.Message.Expires), .d (.str r.1.Will.Message.From), .d (.int .i64 r.1.Will.Message.Seq), .d (.sl aE.ks (List.map aE.enc r.1.Will.Message.Props))], .d (.bool r.2.1), .d (.int .i64 r.2.2)] [] [⟨aD.ks, 60, 32, (List.map aD.enc r.1.Subs)⟩]
theorem zC : ∀ y z, bT y = bT z → y = z := fun y z h => Prod.ext (aB.inj (congrArg (fun o => [avD (aH 0 (cellsOf (aH 0 (Out.res o)))), avD (aH 1 (cellsOf (aH 0 (Out.res o)))), avD (aH 2 (cellsOf (aH 0 (Out.res o)))), avD (aH 3 (cellsOf (aH 0 (Out.res o)))), avD (aH 4 (cellsOf (aH 0 (Out.res o)))), avD (aH 5 (cellsOf (aH 0 (Out.res o)))), avD (aH 6 (cellsOf (aH 0 (Out.res o)))), D.sl aD.ks (bW 0 (Out.rws o)), avD (aH 8 (cellsOf (aH 0 (Out.res o)))), avD (aH 9 (cellsOf (aH 0 (Out.res o)))), avD (aH 10 (cellsOf (aH 0 (Out.res o)))), avD (aH 11 (cellsOf (aH 0 (Out.res o)))), avD (aH 12 (cellsOf (aH 0 (Out.res o)))), avD (aH 13 (cellsOf (aH 0 (Out.res o)))), avD (aH 14 (cellsOf (aH 0 (Out.res o)))), avD (aH 15 (cellsOf (aH 0 (Out.res o)))), avD (aH 16 (cellsOf (aH 0 (Out.res o)))), avD (aH 17 (cellsOf (aH 0 (Out.res o)))), avD (aH 18 (cellsOf (aH 0 (Out.res o)))), avD (aH 19 (cellsOf (aH 0 (Out.res o)))), avD (aH 20 (cellsOf (aH 0 (Out.res o)))), avD (aH 21 (cellsOf (aH 0 (Out.res o)))), avD (aH 22 (cellsOf (aH 0 (Out.res o)))), avD (aH 23 (cellsOf (aH 0 (Out.res o)))), avD (aH 24 (cellsOf (aH 0 (Out.res o))))]) h)) (Prod.ext (congrArg (fun o => aY (avD (aH 1 (Out.res o)))) h) (congrArg (fun o => aL (avD (aH 2 (Out.res o)))) h))
def cL : ((List aD)) → Out := fun r => .ret [.row 0] [] [⟨aD.ks, 60, 32, (List.map aD.enc r)⟩]
theorem sB : ∀ y z, cL y = cL z → y = z := fun y z h => map_inj aD.inj (congrArg (fun o => bW 0 (Out.rws o)) h)
def fX : (aB × Int) → Out := fun r => .ret [.agg [.d (.str r.1.Client), .d (.str r.1.User), .d (.bool r.1.Online), .d (.int .i64 r.1.Conn), .d (.int .i64 r.1.Expiry), .d (.int .i64 r.1.Until), .d (.int .i64 r.1.Dropped), .row 0, .row 1, .d (.int .i64 r.1.Out.Limit), .row 2, .row 3, .d (.int .i64 r.1.Out.Pool.Last), .row 4, .d (.bool r.1.Will.Set), .d (.int .i64 r.1.Will.Delay), .d (.str r.1.Will.Message.Topic), .d (.str r.1.Will.Message.Payload), .d (.int .i64 r.1.Will.Message.Level), .d (.bool r.1.Will.Message.Retain), .d (.int .i64 r.1.Will.Message.Priority), .d (.int .i64 r.1.Will.Message.Expires), .d (.str r.1.Will.Message.From), .d (.int .i64 r.1.Will.Message.Seq), .row 5], .d (.int .i64 r.2)] [] [⟨aD.ks, 60, 32, (List.map aD.enc r.1.Subs)⟩, ⟨aA.ks, 34, 112, (List.map aA.enc r.1.Queue)⟩, ⟨aC.ks, 122, 128, (List.map aC.enc r.1.Out.Items)⟩, ⟨[.int .i64], 3, 8, (List.map (encI .i64) r.1.Out.Pool.Used)⟩, ⟨[.int .i64], 3, 8, (List.map (encI .i64) r.1.In.IDs)⟩, ⟨aE.ks, 130, 32, (List.map aE.enc r.1.Will.Message.Props)⟩]
theorem aaR : ∀ y z, fX y = fX z → y = z := fun y z h => Prod.ext (aB.inj (congrArg (fun o => [avD (aH 0 (cellsOf (aH 0 (Out.res o)))), avD (aH 1 (cellsOf (aH 0 (Out.res o)))), avD (aH 2 (cellsOf (aH 0 (Out.res o)))), avD (aH 3 (cellsOf (aH 0 (Out.res o)))), avD (aH 4 (cellsOf (aH 0 (Out.res o)))), avD (aH 5 (cellsOf (aH 0 (Out.res o)))), avD (aH 6 (cellsOf (aH 0 (Out.res o)))), D.sl aD.ks (bW 0 (Out.rws o)), D.sl aA.ks (bW 1 (Out.rws o)), avD (aH 9 (cellsOf (aH 0 (Out.res o)))), D.sl aC.ks (bW 2 (Out.rws o)), D.sl [.int .i64] (bW 3 (Out.rws o)), avD (aH 12 (cellsOf (aH 0 (Out.res o)))), D.sl [.int .i64] (bW 4 (Out.rws o)), avD (aH 14 (cellsOf (aH 0 (Out.res o)))), avD (aH 15 (cellsOf (aH 0 (Out.res o)))), avD (aH 16 (cellsOf (aH 0 (Out.res o)))), avD (aH 17 (cellsOf (aH 0 (Out.res o)))), avD (aH 18 (cellsOf (aH 0 (Out.res o)))), avD (aH 19 (cellsOf (aH 0 (Out.res o)))), avD (aH 20 (cellsOf (aH 0 (Out.res o)))), avD (aH 21 (cellsOf (aH 0 (Out.res o)))), avD (aH 22 (cellsOf (aH 0 (Out.res o)))), avD (aH 23 (cellsOf (aH 0 (Out.res o)))), D.sl aE.ks (bW 5 (Out.rws o))]) h)) (congrArg (fun o => aL (avD (aH 1 (Out.res o)))) h)
def eK : (aB × Int) → Out := fun r => .ret [.agg [.d (.str r.1.Client), .d (.str r.1.User), .d (.bool r.1.Online), .d (.int .i64 r.1.Conn), .d (.int .i64 r.1.Expiry), .d (.int .i64 r.1.Until), .d (.int .i64 r.1.Dropped), .row 0, .d (.sl aA.ks (List.map aA.enc r.1.Queue)), .d (.int .i64 r.1.Out.Limit), .d (.sl aC.ks (List.map aC.enc r.1.Out.Items)), .d (.sl [.int .i64] (List.map (encI .i64) r.1.Out.Pool.Used)), .d (.int .i64 r.1.Out.Pool.Last), .d (.sl [.int .i64] (List.map (encI .i64) r.1.In.IDs)), .d (.bool r.1.Will.Set), .d (.int .i64 r.1.Will.Delay), .d (.str r.1.Will.Message.Topic), .d (.str r.1.Will.Message.Payload), .d (.int .i64 r.1.Will.Message.Level), .d (.bool r.1.Will.Message.Retain), .d (.int .i64 r.1.Will.Message.Priority), .d (.int .i64 r.1.Will.Message.Expires), .d (.str r.1.Will.Message.From), .d (.int .i64 r.1.Will.Message.Seq), .d (.sl aE.ks (List.map aE.enc r.1.Will.Message.Props))], .d (.int .i64 r.2)] [] [⟨aD.ks, 60, 32, (List.map aD.enc r.1.Subs)⟩]
theorem xK : ∀ y z, eK y = eK z → y = z := fun y z h => Prod.ext (aB.inj (congrArg (fun o => [avD (aH 0 (cellsOf (aH 0 (Out.res o)))), avD (aH 1 (cellsOf (aH 0 (Out.res o)))), avD (aH 2 (cellsOf (aH 0 (Out.res o)))), avD (aH 3 (cellsOf (aH 0 (Out.res o)))), avD (aH 4 (cellsOf (aH 0 (Out.res o)))), avD (aH 5 (cellsOf (aH 0 (Out.res o)))), avD (aH 6 (cellsOf (aH 0 (Out.res o)))), D.sl aD.ks (bW 0 (Out.rws o)), avD (aH 8 (cellsOf (aH 0 (Out.res o)))), avD (aH 9 (cellsOf (aH 0 (Out.res o)))), avD (aH 10 (cellsOf (aH 0 (Out.res o)))), avD (aH 11 (cellsOf (aH 0 (Out.res o)))), avD (aH 12 (cellsOf (aH 0 (Out.res o)))), avD (aH 13 (cellsOf (aH 0 (Out.res o)))), avD (aH 14 (cellsOf (aH 0 (Out.res o)))), avD (aH 15 (cellsOf (aH 0 (Out.res o)))), avD (aH 16 (cellsOf (aH 0 (Out.res o)))), avD (aH 17 (cellsOf (aH 0 (Out.res o)))), avD (aH 18 (cellsOf (aH 0 (Out.res o)))), avD (aH 19 (cellsOf (aH 0 (Out.res o)))), avD (aH 20 (cellsOf (aH 0 (Out.res o)))), avD (aH 21 (cellsOf (aH 0 (Out.res o)))), avD (aH 22 (cellsOf (aH 0 (Out.res o)))), avD (aH 23 (cellsOf (aH 0 (Out.res o)))), avD (aH 24 (cellsOf (aH 0 (Out.res o))))]) h)) (congrArg (fun o => aL (avD (aH 1 (Out.res o)))) h)
def gA : (Bool) → Out := fun r => .ret [.d (.bool r)] [] []
theorem adq : ∀ y z, gA y = gA z → y = z := fun y z h => congrArg (fun o => aY (avD (aH 0 (Out.res o)))) h
def gC : (Bool) → Out := fun r => .ret [.d (.bool r)] [] []
theorem ac0 : ∀ y z, gC y = gC z → y = z := fun y z h => congrArg (fun o => aY (avD (aH 0 (Out.res o)))) h
def dN : (Bool) → Out := fun r => .ret [.d (.bool r)] [] []
theorem uT : ∀ y z, dN y = dN z → y = z := fun y z h => congrArg (fun o => aY (avD (aH 0 (Out.res o)))) h
def iV : (Bool) → Out := fun r => .ret [.d (.bool r)] [] []
theorem acJ : ∀ y z, iV y = iV z → y = z := fun y z h => congrArg (fun o => aY (avD (aH 0 (Out.res o)))) h
def eQ : (Bool) → Out := fun r => .ret [.d (.bool r)] [] []
theorem ac6 : ∀ y z, eQ y = eQ z → y = z := fun y z h => congrArg (fun o => aY (avD (aH 0 (Out.res o)))) h
def iT : (Bool) → Out := fun r => .ret [.d (.bool r)] [] []
theorem adg : ∀ y z, iT y = iT z → y = z := fun y z h => congrArg (fun o => aY (avD (aH 0 (Out.res o)))) h
def iY : (Bool) → Out := fun r => .ret [.d (.bool r)] [] []
theorem ac3 : ∀ y z, iY y = iY z → y = z := fun y z h => congrArg (fun o => aY (avD (aH 0 (Out.res o)))) h
def iS : (Bool) → Out := fun r => .ret [.d (.bool r)] [] []
theorem vN : ∀ y z, iS y = iS z → y = z := fun y z h => congrArg (fun o => aY (avD (aH 0 (Out.res o)))) h
def p8 : (Bool) → Out := fun r => .ret [.d (.bool r)] [] []
def good : FuncId → Out → Prop := fun f o => match f with | 100 => ∃ x, hQ x = o | 101 => ∃ x, iC x = o | 48 => ∃ x, cJ x = o | 94 => ∃ x, kD x = o | 41 => ∃ x, eT x = o | 168 => ∃ x, dQ x = o | 99 => ∃ x, c9 x = o | 150 => ∃ x, cQ x = o | 98 => ∃ x, dH x = o | 167 => ∃ x, cG x = o | 166 => ∃ x, cF x = o | 133 => ∃ x, gM x = o | 134 => ∃ x, hX x = o | 135 => ∃ x, gO x = o | 69 => ∃ x, fJ x = o | 42 => ∃ x, gE x = o | 47 => ∃ x, iD x = o | 102 => ∃ x, fH x = o | 49 => ∃ x, fP x = o | 13 => ∃ x, cA x = o | 43 => ∃ x, fM x = o | 95 => ∃ x, dG x = o | 148 => ∃ x, gU x = o | 115 => ∃ x, iQ x = o | 96 => ∃ x, fY x = o | 44 => ∃ x, eJ x = o | 45 => ∃ x, iB x = o | 149 => ∃ x, dM x = o | 97 => ∃ x, cI x = o | 46 => ∃ x, hY x = o | 40 => ∃ x, eF x = o | 12 => ∃ x, iA x = o | 138 => ∃ x, bP x = o | 80 => ∃ x, cW x = o | 81 => ∃ x, lY x = o | 31 => ∃ x, mE x = o | 163 => ∃ x, dA x = o | 179 => ∃ x, e9 x = o | 159 => ∃ x, hJ x = o | 193 => ∃ x, eZ x = o | 189 => ∃ x, eL x = o | 180 => ∃ x, jR x = o | 160 => ∃ x, mG x = o | 139 => ∃ x, eO x = o | 161 => ∃ x, fR x = o | 199 => ∃ x, gQ x = o | 198 => ∃ x, jC x = o | 190 => ∃ x, dE x = o | 181 => ∃ x, kX x = o | 162 => ∃ x, lR x = o | 126 => ∃ x, dY x = o | 127 => ∃ x, eC x = o | 124 => ∃ x, lW x = o | 125 => ∃ x, gL x = o | 66 => ∃ x, iW x = o | 164 => ∃ x, eY x = o | 130 => ∃ x, jL x = o | 129 => ∃ x, kI x = o | 128 => ∃ x, bI x = o | 67 => ∃ x, iM x = o | 103 => ∃ x, cP x = o | 104 => ∃ x, bN x = o | 50 => ∃ x, bM x = o | 68 => ∃ x, cK x = o | 26 => ∃ x, cY x = o | 51 => ∃ x, dI x = o | 106 => ∃ x, jI x = o | 105 => ∃ x, lS x = o | 52 => ∃ x, jV x = o | 15 => ∃ x, jG x = o | 113 => ∃ x, jS x = o | 156 => ∃ x, jD x = o | 169 => ∃ x, kQ x = o | 170 => ∃ x, nP x = o | 184 => ∃ x, jK x = o | 171 => ∃ x, jF x = o | 141 => ∃ x, k7 x = o | 177 => ∃ x, nO x = o | 191 => ∃ x, kB x = o | 185 => ∃ x, kR x = o | 186 => ∃ x, hZ x = o | 175 => ∃ x, bO x = o | 178 => ∃ x, dS x = o | 157 => ∃ x, lT x = o | 153 => ∃ x, dJ x = o | 110 => ∃ x, dF x = o | 147 => ∃ x, eS x = o | 114 => ∃ x, iO x = o | 61 => ∃ x, dX x = o | 34 => ∃ x, lQ x = o | 152 => ∃ x, jQ x = o | 151 => ∃ x, bL x = o | 109 => ∃ x, kS x = o | 176 => ∃ x, dU x = o | 154 => ∃ x, nN x = o | 155 => ∃ x, bZ x = o | 111 => ∃ x, jN x = o | 112 => ∃ x, fG x = o | 60 => ∃ x, fF x = o | 19 => ∃ x, kG x = o | 65 => ∃ x, eB x = o | 123 => ∃ x, bJ x = o | 64 => ∃ x, bH x = o | 23 => ∃ x, jM x = o | 91 => ∃ x, g6 x = o | 36 => ∃ x, kA x = o | 24 => ∃ x, jT x = o | 14 => ∃ x, fN x = o | 70 => ∃ x, eP x = o | 71 => ∃ x, c7 x = o | 27 => ∃ x, bT x = o | 72 => ∃ x, cL x = o | 28 => ∃ x, fX x = o | 29 => ∃ x, eK x = o | 55 => ∃ x, gA x = o | 56 => ∃ x, gC x = o | 108 => ∃ x, dN x = o | 107 => ∃ x, iV x = o | 57 => ∃ x, eQ x = o | 58 => ∃ x, iT x = o | 59 => ∃ x, iY x = o | 17 => ∃ x, iS x = o | 6 => ∃ x, p8 x = o | _ => False
abbrev cT {R : Type} (g : FuncId) (out : R → Out) : Gm R := ag7 SE good g out
noncomputable abbrev gG : Fun := sU SE good
end Te
end PX
