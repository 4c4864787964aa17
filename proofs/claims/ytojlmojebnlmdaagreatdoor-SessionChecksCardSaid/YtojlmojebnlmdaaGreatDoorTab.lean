import Derived.Test.YtojlmojebnlmdaaGreatDoorMod
import Derived.Test.YtojlmojebnlmdaaGreatDoorProg
set_option linter.unusedVariables false
set_option linter.unusedSimpArgs false
noncomputable section
namespace PX
open Go
open Md
namespace Te
def tyL : List (Nat × TI) := [(3, ⟨[.int .i64], false, 8, [], 0⟩),
 (4, ⟨[.bool], false, 1, [], 0⟩),
 (5, ⟨[.int .u8], false, 1, [], 0⟩),
 (9, ⟨[.str], false, 16, [], 0⟩),
 (21, ⟨[.int .i32], false, 4, [], 0⟩),
 (22, ⟨[.sl [.str, .int .i64, .bool]], false, 24, [], 60⟩),
 (23, ⟨[.sl [.str, .str, .int .i64, .bool, .int .i64, .int .i64, .str, .int .i64, .sl [.str, .str]]], false, 24, [], 34⟩),
 (24, ⟨[.sl [.int .i64, .int .i64, .str, .str, .int .i64, .bool, .int .i64, .int .i64, .str, .int .i64, .sl [.str, .str]]], false, 24, [], 122⟩),
 (25, ⟨[.sl [.int .i64]], false, 24, [], 3⟩),
 (27, ⟨[.sl [.int .i64], .int .i64], true, 32, [(0, 25), (1, 3)], 0⟩),
 (29, ⟨[.int .i64, .sl [.int .i64, .int .i64, .str, .str, .int .i64, .bool, .int .i64, .int .i64, .str, .int .i64, .sl [.str, .str]], .sl [.int .i64], .int .i64], true, 64, [(0, 3), (1, 24), (2, 27)], 0⟩),
 (31, ⟨[.sl [.int .i64]], true, 24, [(0, 25)], 0⟩),
 (32, ⟨[.sl [.str, .str]], false, 24, [], 130⟩),
 (34, ⟨[.str, .str, .int .i64, .bool, .int .i64, .int .i64, .str, .int .i64, .sl [.str, .str]], true, 112, [(0, 9), (1, 9), (2, 3), (3, 4), (4, 3), (5, 3), (6, 9), (7, 3), (8, 32)], 0⟩),
 (36, ⟨[.bool, .int .i64, .str, .str, .int .i64, .bool, .int .i64, .int .i64, .str, .int .i64, .sl [.str, .str]], true, 128, [(0, 4), (1, 3), (2, 34)], 0⟩),
 (38, ⟨[.str, .str, .bool, .int .i64, .int .i64, .int .i64, .int .i64, .sl [.str, .int .i64, .bool], .sl [.str, .str, .int .i64, .bool, .int .i64, .int .i64, .str, .int .i64, .sl [.str, .str]], .int .i64, .sl [.int .i64, .int .i64, .str, .str, .int .i64, .bool, .int .i64, .int .i64, .str, .int .i64, .sl [.str, .str]], .sl [.int .i64], .int .i64, .sl [.int .i64], .bool, .int .i64, .str, .str, .int .i64, .bool, .int .i64, .int .i64, .str, .int .i64, .sl [.str, .str]], true, 336, [(0, 9), (1, 9), (2, 4), (3, 3), (4, 3), (5, 3), (6, 3), (7, 22), (8, 23), (9, 29), (13, 31), (14, 36)], 0⟩),
 (39, ⟨[.int .i64], false, 8, [], 0⟩),
 (47, ⟨[.sl [.str]], false, 24, [], 9⟩),
 (49, ⟨[.int .i64, .int .i64, .bool, .str, .str, .int .i64, .bool, .int .i64, .int .i64, .str, .int .i64, .sl [.str, .str], .str, .str, .bool, .int .i64, .int .i64, .int .i64, .bool, .int .i64, .str, .str, .int .i64, .bool, .int .i64, .int .i64, .str, .int .i64, .sl [.str, .str], .bool, .int .i64, .sl [.str, .int .i64, .bool], .sl [.str], .sl [.int .i64]], true, 416, [(0, 3), (1, 3), (2, 4), (3, 34), (12, 9), (13, 9), (14, 4), (15, 3), (16, 3), (17, 3), (18, 36), (29, 4), (30, 3), (31, 22), (32, 47), (33, 25)], 0⟩),
 (51, ⟨[.sl [.int .i64, .int .i64, .bool, .str, .str, .int .i64, .bool, .int .i64, .int .i64, .str, .int .i64, .sl [.str, .str], .str, .str, .bool, .int .i64, .int .i64, .int .i64, .bool, .int .i64, .str, .str, .int .i64, .bool, .int .i64, .int .i64, .str, .int .i64, .sl [.str, .str], .bool, .int .i64, .sl [.str, .int .i64, .bool], .sl [.str], .sl [.int .i64]]], false, 24, [], 49⟩),
 (60, ⟨[.str, .int .i64, .bool], true, 32, [(0, 9), (1, 3), (2, 4)], 0⟩),
 (77, ⟨[.int .u64], false, 8, [], 0⟩),
 (87, ⟨[.sl [.int .i64]], false, 24, [], 39⟩),
 (103, ⟨[.fn], false, 8, [], 0⟩),
 (122, ⟨[.int .i64, .int .i64, .str, .str, .int .i64, .bool, .int .i64, .int .i64, .str, .int .i64, .sl [.str, .str]], true, 128, [(0, 3), (1, 3), (2, 34)], 0⟩),
 (130, ⟨[.str, .str], true, 32, [(0, 9), (1, 9)], 0⟩),
 (147, ⟨[.fn], false, 8, [], 0⟩),
 (157, ⟨[.fn], false, 8, [], 0⟩)]
def fnL : List (Nat × Func) := [(138, Go.Proofs.Tryz.f138), (80, Go.Proofs.Tryz.f80), (81, Go.Proofs.Tryz.f81), (31, Go.Proofs.Tryz.f31), (163, Go.Proofs.Tryz.f163), (179, Go.Proofs.Tryz.f179), (159, Go.Proofs.Tryz.f159), (193, Go.Proofs.Tryz.f193), (189, Go.Proofs.Tryz.f189), (180, Go.Proofs.Tryz.f180), (160, Go.Proofs.Tryz.f160), (139, Go.Proofs.Tryz.f139), (161, Go.Proofs.Tryz.f161), (199, Go.Proofs.Tryz.f199), (198, Go.Proofs.Tryz.f198), (190, Go.Proofs.Tryz.f190), (181, Go.Proofs.Tryz.f181), (162, Go.Proofs.Tryz.f162), (126, Go.Proofs.Tryz.f126), (127, Go.Proofs.Tryz.f127), (124, Go.Proofs.Tryz.f124), (125, Go.Proofs.Tryz.f125), (66, Go.Proofs.Tryz.f66), (164, Go.Proofs.Tryz.f164), (130, Go.Proofs.Tryz.f130), (129, Go.Proofs.Tryz.f129), (128, Go.Proofs.Tryz.f128), (67, Go.Proofs.Tryz.f67), (103, Go.Proofs.Tryz.f103), (104, Go.Proofs.Tryz.f104), (50, Go.Proofs.Tryz.f50), (68, Go.Proofs.Tryz.f68), (26, Go.Proofs.Tryz.f26), (51, Go.Proofs.Tryz.f51), (106, Go.Proofs.Tryz.f106), (105, Go.Proofs.Tryz.f105), (52, Go.Proofs.Tryz.f52), (15, Go.Proofs.Tryz.f15), (113, Go.Proofs.Tryz.f113), (156, Go.Proofs.Tryz.f156), (169, Go.Proofs.Tryz.f169), (170, Go.Proofs.Tryz.f170), (184, Go.Proofs.Tryz.f184), (171, Go.Proofs.Tryz.f171), (141, Go.Proofs.Tryz.f141), (177, Go.Proofs.Tryz.f177), (191, Go.Proofs.Tryz.f191), (185, Go.Proofs.Tryz.f185), (186, Go.Proofs.Tryz.f186), (175, Go.Proofs.Tryz.f175), (178, Go.Proofs.Tryz.f178), (157, Go.Proofs.Tryz.f157), (153, Go.Proofs.Tryz.f153), (110, Go.Proofs.Tryz.f110), (147, Go.Proofs.Tryz.f147), (114, Go.Proofs.Tryz.f114), (61, Go.Proofs.Tryz.f61), (34, Go.Proofs.Tryz.f34), (152, Go.Proofs.Tryz.f152), (151, Go.Proofs.Tryz.f151), (109, Go.Proofs.Tryz.f109), (176, Go.Proofs.Tryz.f176), (154, Go.Proofs.Tryz.f154), (155, Go.Proofs.Tryz.f155), (111, Go.Proofs.Tryz.f111), (112, Go.Proofs.Tryz.f112), (60, Go.Proofs.Tryz.f60), (19, Go.Proofs.Tryz.f19), (65, Go.Proofs.Tryz.f65), (123, Go.Proofs.Tryz.f123), (64, Go.Proofs.Tryz.f64), (23, Go.Proofs.Tryz.f23), (91, Go.Proofs.Tryz.f91), (36, Go.Proofs.Tryz.f36), (24, Go.Proofs.Tryz.f24), (14, Go.Proofs.Tryz.f14), (140, Go.Proofs.Tryz.f140), (83, Go.Proofs.Tryz.f83), (84, Go.Proofs.Tryz.f84), (142, Go.Proofs.Tryz.f142), (172, Go.Proofs.Tryz.f172), (143, Go.Proofs.Tryz.f143), (85, Go.Proofs.Tryz.f85), (86, Go.Proofs.Tryz.f86), (144, Go.Proofs.Tryz.f144), (87, Go.Proofs.Tryz.f87), (33, Go.Proofs.Tryz.f33), (100, Go.Proofs.Tryz.f100), (101, Go.Proofs.Tryz.f101), (48, Go.Proofs.Tryz.f48), (94, Go.Proofs.Tryz.f94), (41, Go.Proofs.Tryz.f41), (168, Go.Proofs.Tryz.f168), (99, Go.Proofs.Tryz.f99), (150, Go.Proofs.Tryz.f150), (98, Go.Proofs.Tryz.f98), (167, Go.Proofs.Tryz.f167), (166, Go.Proofs.Tryz.f166), (133, Go.Proofs.Tryz.f133), (134, Go.Proofs.Tryz.f134), (135, Go.Proofs.Tryz.f135), (69, Go.Proofs.Tryz.f69), (42, Go.Proofs.Tryz.f42), (47, Go.Proofs.Tryz.f47), (102, Go.Proofs.Tryz.f102), (49, Go.Proofs.Tryz.f49), (13, Go.Proofs.Tryz.f13), (43, Go.Proofs.Tryz.f43), (95, Go.Proofs.Tryz.f95), (148, Go.Proofs.Tryz.f148), (115, Go.Proofs.Tryz.f115), (96, Go.Proofs.Tryz.f96), (44, Go.Proofs.Tryz.f44), (45, Go.Proofs.Tryz.f45), (149, Go.Proofs.Tryz.f149), (97, Go.Proofs.Tryz.f97), (46, Go.Proofs.Tryz.f46), (40, Go.Proofs.Tryz.f40), (12, Go.Proofs.Tryz.f12), (8, Go.Proofs.Tryz.f8)]
def tmL : List (Nat × (List Sh × List (TypeId × List Sh))) := [(138, ([.row 0 aC.ks 130 32], [])),
 (80, ([.agg [.str, .str, .int .i64, .bool, .int .i64, .int .i64, .str, .int .i64, .row 0 aC.ks 130 32]], [])),
 (81, ([.agg [.int .i64, .row 0 aB.ks 122 128, .row 1 [.int .i64] 3 8, .int .i64]], [])),
 (31, ([.agg [.str, .str, .bool, .int .i64, .int .i64, .int .i64, .int .i64, .row 0 aF.ks 60 32, .row 1 aA.ks 34 112, .int .i64, .row 2 aB.ks 122 128, .row 3 [.int .i64] 3 8, .int .i64, .row 4 [.int .i64] 3 8, .bool, .int .i64, .str, .str, .int .i64, .bool, .int .i64, .int .i64, .str, .int .i64, .row 5 aC.ks 130 32]], [])),
 (163, ([.bool], [])),
 (179, ([.str, .bool], [])),
 (159, ([.str, .bool], [])),
 (193, ([.int .i64], [])),
 (189, ([.int .i64], [])),
 (180, ([.str, .str, .bool], [])),
 (160, ([.str, .str, .bool], [])),
 (139, ([.bool], [])),
 (161, ([.bool], [])),
 (199, ([.int .i64], [])),
 (198, ([.int .i64], [])),
 (190, ([.sl [.str]], [])),
 (181, ([.sl [.str]], [])),
 (162, ([.sl [.str]], [])),
 (126, ([.bool], [])),
 (127, ([.bool], [])),
 (124, ([.str, .str, .bool], [])),
 (125, ([.bool], [(60, aF.shs)])),
 (66, ([.int .i64], [])),
 (164, ([.int .i64], [])),
 (130, ([.int .i64], [])),
 (129, ([.int .i64], [])),
 (128, ([.int .i64, .bool], [])),
 (67, ([.int .i64, .bool], [])),
 (103, ([.row 0 aF.ks 60 32], [])),
 (104, ([.row 0 [.int .i64] 3 8], [])),
 (50, ([.agg [.str, .str, .bool, .int .i64, .int .i64, .int .i64, .int .i64, .row 0 aF.ks 60 32, .row 1 aA.ks 34 112, .int .i64, .row 2 aB.ks 122 128, .row 3 [.int .i64] 3 8, .int .i64, .row 4 [.int .i64] 3 8, .bool, .int .i64, .str, .str, .int .i64, .bool, .int .i64, .int .i64, .str, .int .i64, .row 5 aC.ks 130 32]], [])),
 (68, ([.row 0 aF.ks 60 32], [])),
 (26, ([.agg [.str, .str, .bool, .int .i64, .int .i64, .int .i64, .int .i64, .row 0 aF.ks 60 32, .row 1 aA.ks 34 112, .int .i64, .row 2 aB.ks 122 128, .row 3 [.int .i64] 3 8, .int .i64, .row 4 [.int .i64] 3 8, .bool, .int .i64, .str, .str, .int .i64, .bool, .int .i64, .int .i64, .str, .int .i64, .row 5 aC.ks 130 32], .bool, .int .i64], [])),
 (51, ([aD.sh], [])),
 (106, ([.agg [.str, .str, .int .i64, .bool, .int .i64, .int .i64, .str, .int .i64, .row 0 aC.ks 130 32]], [])),
 (105, ([.row 0 aA.ks 34 112], [])),
 (52, ([.row 0 aA.ks 34 112, .row 1 aA.ks 34 112, .bool], [])),
 (15, ([aD.sh, .bool], [])),
 (113, ([.bool], [])),
 (156, ([.int .i64], [])),
 (169, ([.bool], [])),
 (170, ([.bool], [])),
 (184, ([.bool], [])),
 (171, ([.int .i64], [])),
 (141, ([.int .i64], [])),
 (177, ([.int .i64], [])),
 (191, ([.bool], [])),
 (185, ([.bool], [])),
 (186, ([.bool], [])),
 (175, ([.int .i64, .bool], [])),
 (178, ([.row 0 [.int .i64] 3 8], [])),
 (157, ([.int .i64, .agg [.row 0 [.int .i64] 3 8, .int .i64], .int .i64], [])),
 (153, ([.agg [.str, .str, .int .i64, .bool, .int .i64, .int .i64, .str, .int .i64, .row 0 aC.ks 130 32]], [])),
 (110, ([.agg [.int .i64, .row 0 aB.ks 122 128, .row 1 [.int .i64] 3 8, .int .i64]], [])),
 (147, ([.agg [.int .i64, .int .i64, .bool, .str, .str, .int .i64, .bool, .int .i64, .int .i64, .str, .int .i64, .row 0 aC.ks 130 32, .str, .str, .bool, .int .i64, .int .i64, .int .i64, .bool, .int .i64, .str, .str, .int .i64, .bool, .int .i64, .int .i64, .str, .int .i64, .row 1 aC.ks 130 32, .bool, .int .i64, .row 2 aF.ks 60 32, .row 3 [.str] 9 16, .row 4 [.int .i64] 3 8]], [])),
 (114, ([.agg [.int .i64, .row 0 aB.ks 122 128, .row 1 [.int .i64] 3 8, .int .i64], .agg [.int .i64, .int .i64, .bool, .str, .str, .int .i64, .bool, .int .i64, .int .i64, .str, .int .i64, .row 2 aC.ks 130 32, .str, .str, .bool, .int .i64, .int .i64, .int .i64, .bool, .int .i64, .str, .str, .int .i64, .bool, .int .i64, .int .i64, .str, .int .i64, .row 3 aC.ks 130 32, .bool, .int .i64, .row 4 aF.ks 60 32, .row 5 [.str] 9 16, .row 6 [.int .i64] 3 8], .int .i64], [])),
 (61, ([aD.sh, .row 0 aE.ks 49 416], [])),
 (34, ([aD.sh, .row 0 aE.ks 49 416], [])),
 (152, ([.bool], [(3, [.int .i64])])),
 (151, ([.int .i64], [(3, [.int .i64])])),
 (109, ([.int .i64], [])),
 (176, ([.row 0 [.int .i64] 3 8], [])),
 (154, ([.agg [.row 0 [.int .i64] 3 8, .int .i64], .bool], [])),
 (155, ([.row 0 aB.ks 122 128], [])),
 (111, ([.agg [.int .i64, .row 0 aB.ks 122 128, .row 1 [.int .i64] 3 8, .int .i64]], [])),
 (112, ([.agg [.int .i64, .int .i64, .bool, .str, .str, .int .i64, .bool, .int .i64, .int .i64, .str, .int .i64, .row 0 aC.ks 130 32, .str, .str, .bool, .int .i64, .int .i64, .int .i64, .bool, .int .i64, .str, .str, .int .i64, .bool, .int .i64, .int .i64, .str, .int .i64, .row 1 aC.ks 130 32, .bool, .int .i64, .row 2 aF.ks 60 32, .row 3 [.str] 9 16, .row 4 [.int .i64] 3 8]], [])),
 (60, ([.agg [.int .i64, .row 0 aB.ks 122 128, .row 1 [.int .i64] 3 8, .int .i64], .row 2 aE.ks 49 416, .int .i64], [])),
 (19, ([aD.sh, .row 0 aE.ks 49 416, .int .i64], [])),
 (65, ([.bool], [])),
 (123, ([.int .i64], [])),
 (64, ([.row 0 aA.ks 34 112], [])),
 (23, ([aD.sh], [])),
 (91, ([.row 0 aE.ks 49 416], [])),
 (36, ([aD.sh, .row 0 aE.ks 49 416], [])),
 (24, ([.bool], [])),
 (14, ([.bool], [])),
 (140, ([.bool], [])),
 (83, ([.int .i64], [])),
 (84, ([.int .i64], [])),
 (142, ([.int .i64], [])),
 (172, ([.bool], [])),
 (143, ([.int .i64], [])),
 (85, ([.int .i64], [])),
 (86, ([.int .i64], [])),
 (144, ([.bool], [])),
 (87, ([.int .i64], [])),
 (33, ([.int .i64], [])),
 (100, ([.bool], [])),
 (101, ([.bool], [])),
 (48, ([.bool], [])),
 (94, ([.bool], [])),
 (41, ([.int .i64], [])),
 (168, ([.bool], [])),
 (99, ([.bool], [])),
 (150, ([.row 0 [.str] 9 16], [])),
 (98, ([.bool], [])),
 (167, ([.bool], [])),
 (166, ([.str, .str, .bool], [])),
 (133, ([.bool], [])),
 (134, ([.bool], [])),
 (135, ([.bool], [])),
 (69, ([.int .i64], [])),
 (42, ([.int .i64], [])),
 (47, ([.bool], [])),
 (102, ([.bool], [])),
 (49, ([.int .i64], [])),
 (13, ([.int .i64], [])),
 (43, ([.int .i64], [])),
 (95, ([.int .i64], [])),
 (148, ([.bool], [])),
 (115, ([.int .i64], [])),
 (96, ([.int .i64], [])),
 (44, ([.int .i64], [])),
 (45, ([.int .i64], [])),
 (149, ([.bool], [])),
 (97, ([.bool], [])),
 (46, ([.int .i64], [])),
 (40, ([.int .i64], [])),
 (12, ([.int .i64], [])),
 (8, ([.bool], []))]
def mvL : List (Nat × Bool) := [(68, true), (178, true), (61, true), (176, true), (155, true), (64, true)]
def naL : List (Nat × List (List (Option (List CK × TypeId × Nat)))) := [(68, [[some (aF.ks, 60, 32)], [], [some (aF.ks, 60, 32)]]), (178, [[some ([.int .i64], 3, 8)], [], [some ([.int .i64], 3, 8)]]), (61, [[], [], [some (aE.ks, 49, 416)]]), (176, [[some ([.int .i64], 3, 8)], [], []]), (155, [[some (aB.ks, 122, 128)], [], []]), (64, [[some (aA.ks, 34, 112)], []])]
def hlL : List (Nat × List (Nat × Hint)) := [(139, [(4, ⟨[(15, .it 4000)], [], []⟩)]),
 (161, [(5, ⟨[(3, .int .i64), (15, .it 4000)], [], []⟩)]),
 (198, [(6, ⟨[(0, .str), (1, .str), (5, .int .i64)], [], []⟩)]),
 (190, [(11, ⟨[(0, .str), (1, .str), (2, .int .i64), (3, .int .i64), (9, .row 3009 [.str] 9 16), (10, .int .i64)], [], []⟩)]),
 (126, [(6, ⟨[(3, .sl [.str]), (4, .bool), (15, .sl [.str]), (16, .int .i64), (17, .int .i64)], [], []⟩), (9, ⟨[(3, .sl [.str]), (4, .bool), (5, .int .i64), (6, .str), (15, .sl [.str]), (16, .int .i64), (17, .int .i64), (23, .it 4000)], [], []⟩)]),
 (128, [(3, ⟨[(0, .sl aF.ks), (1, .str), (2, .fn 129 [] []), (8, .int .i64), (9, .int .i64), (10, .int .i64)], [], []⟩)]),
 (50, [(4, ⟨[(1, .ptr 1000000000 0), (2, .ptr 1000000001 0), (3, .row 3003 aA.ks 34 112), (18, .sl aA.ks), (19, .int .i64), (20, .int .i64)], [(38, [.str, .str, .bool, .int .i64, .int .i64, .int .i64, .int .i64, .row 50007 aF.ks 60 32, .sl aA.ks, .int .i64, .sl aB.ks, .sl [.int .i64], .int .i64, .sl [.int .i64], .bool, .int .i64, .str, .str, .int .i64, .bool, .int .i64, .int .i64, .str, .int .i64, .sl aC.ks]), (38, aD.shs)], []⟩), (11, ⟨[(1, .ptr 1000000000 0), (2, .ptr 1000000001 0), (6, .row 3006 aB.ks 122 128), (39, .sl aB.ks), (40, .int .i64), (41, .int .i64)], [(38, [.str, .str, .bool, .int .i64, .int .i64, .int .i64, .int .i64, .row 50007 aF.ks 60 32, .row 50008 aA.ks 34 112, .int .i64, .sl aB.ks, .sl [.int .i64], .int .i64, .sl [.int .i64], .bool, .int .i64, .str, .str, .int .i64, .bool, .int .i64, .int .i64, .str, .int .i64, .sl aC.ks]), (38, aD.shs)], []⟩)]),
 (105, [(3, ⟨[(5, .row 3005 aA.ks 34 112), (13, .sl aA.ks), (14, .int .i64), (15, .int .i64)], [], []⟩)]),
 (169, [(4, ⟨[(9, .it 4000)], [], []⟩)]),
 (184, [(4, ⟨[(0, .str), (3, .int .i64)], [], []⟩)]),
 (171, [(4, ⟨[(0, .sl aC.ks), (8, .sl aC.ks), (9, .int .i64), (10, .int .i64)], [], []⟩)]),
 (175, [(3, ⟨[(0, .sl [.int .i64]), (1, .int .i64), (6, .int .i64), (7, .int .i64), (8, .int .i64)], [], []⟩)]),
 (157, [(5, ⟨[(1, .ptr 1000000000 0), (3, .ptr 1000000001 0), (5, .int .i64), (18, .int .i64), (19, .int .i64)], [(27, aJ.shs), (27, aJ.shs)], []⟩)]),
 (110, [(3, ⟨[(1, .ptr 1000000000 0), (2, .ptr 1000000001 0), (3, .row 3003 aB.ks 122 128), (12, .sl aB.ks), (13, .int .i64), (14, .int .i64)], [(29, aG.shs), (29, aG.shs)], []⟩)]),
 (61, [(1, ⟨[(1, .int .i64), (2, .row 3002 aE.ks 49 416), (3, .ptr 1000000000 0), (6, .ptr 1000000001 0)], [(38, aD.shs), (38, aD.shs)], []⟩)]),
 (151, [(2, ⟨[(0, .sl aB.ks), (1, .fn 152 [] [.ptr 2000000000 0]), (7, .int .i64), (8, .int .i64)], [], [(3, [.int .i64])]⟩)]),
 (123, [(2, ⟨[(0, .sl aA.ks), (1, .fn 65 [] []), (7, .int .i64), (8, .int .i64)], [], []⟩)]),
 (64, [(5, ⟨[(0, .row 3000 aA.ks 34 112), (1, .fn 65 [] []), (5, .int .i64), (6, .int .i64)], [], []⟩)]),
 (91, [(3, ⟨[(1, .ptr 1000000000 0), (3, .row 3003 aE.ks 49 416), (9, .int .i64), (10, .int .i64)], [(29, aG.shs)], []⟩)]),
 (84, [(4, ⟨[(1, .ptr 1000000000 0), (14, .sl aF.ks), (15, .int .i64), (16, .int .i64)], [(38, aD.shs)], []⟩), (15, ⟨[(46, .sl aA.ks), (47, .int .i64), (48, .int .i64)], [], []⟩)]),
 (142, [(5, ⟨[(1, .ptr 1000000000 0), (3, .int .i64), (11, .sl [.int .i64]), (12, .int .i64), (13, .int .i64)], [(27, aJ.shs)], []⟩)]),
 (85, [(9, ⟨[(1, .ptr 1000000000 0), (26, .int .i64), (27, .int .i64)], [(29, aG.shs)], []⟩)]),
 (86, [(5, ⟨[(3, .int .i64), (11, .sl [.int .i64]), (12, .int .i64), (13, .int .i64)], [], []⟩)]),
 (144, [(4, ⟨[(3, .ptr 1000000000 0), (71, .sl aC.ks), (72, .int .i64), (73, .int .i64)], [(34, aA.shs)], []⟩)]),
 (48, [(4, ⟨[(0, .str), (3, .int .i64)], [], []⟩)]),
 (99, [(2, ⟨[(0, .str), (1, .int .u8), (5, .int .i64)], [], []⟩)]),
 (150, [(4, ⟨[(0, .str), (3, .row 3003 [.str] 9 16), (4, .int .i64), (5, .int .i64)], [], []⟩)]),
 (167, [(5, ⟨[(3, .row 3003 [.str] 9 16), (4, .int .i64)], [], []⟩)]),
 (166, [(5, ⟨[(5, .str), (6, .int .i64)], [], []⟩)]),
 (42, [(4, ⟨[(0, .sl aF.ks), (3, .int .i64)], [], []⟩)]),
 (102, [(4, ⟨[(0, .str), (3, .int .i64)], [], []⟩)]),
 (49, [(4, ⟨[(0, .sl aC.ks), (3, .int .i64)], [], []⟩)]),
 (43, [(4, ⟨[(0, .sl aA.ks), (3, .int .i64)], [], []⟩)]),
 (95, [(4, ⟨[(1, .ptr 1000000000 0), (3, .int .i64)], [(27, aJ.shs)], []⟩)]),
 (148, [(2, ⟨[(1, .int .i64), (2, .ptr 1000000000 0), (5, .int .i64)], [(27, aJ.shs)], []⟩)]),
 (115, [(2, ⟨[(0, .sl aB.ks), (1, .int .i64), (5, .int .i64)], [], []⟩)]),
 (44, [(9, ⟨[(1, .ptr 1000000000 0), (4, .int .i64)], [(29, aG.shs)], []⟩)]),
 (149, [(4, ⟨[(0, .sl aC.ks), (1, .sl aC.ks), (5, .int .i64)], [], []⟩)]),
 (40, [(2, ⟨[(0, .sl [.int .i64]), (3, .int .i64)], [], []⟩)])]
def hrL : List (Nat × List (Nat × Hint)) := [(139, [(3, ⟨[(0, .str)], [], []⟩), (7, ⟨[(3, .int .i64), (4, .int .i32), (5, .bool), (15, .it 4000)], [], []⟩)]),
 (161, [(3, ⟨[(0, .str)], [], []⟩)]),
 (190, [(7, ⟨[(0, .str), (1, .str), (2, .int .i64), (3, .int .i64)], [], []⟩), (17, ⟨[(0, .str), (9, .row 3009 [.str] 9 16), (10, .int .i64)], [], []⟩)]),
 (26, [(7, ⟨[(2, .ptr 1000000000 0), (3, .ptr 1000000001 0), (4, .ptr 1000000002 0), (8, .int .i64), (9, .bool)], [(38, aD.shs), (60, aF.shs), (38, aD.shs)], []⟩)]),
 (52, [(6, ⟨[(5, .ptr 1000000000 0), (11, .row 3011 aA.ks 34 112)], [(34, aA.shs)], []⟩)]),
 (15, [(4, ⟨[(2, .int .i64), (3, .int .i64), (4, .ptr 1000000000 0), (5, .ptr 1000000001 0), (8, .ptr 1000000002 0), (10, .ptr 1000000003 0)], [(38, aD.shs), (34, aA.shs), (38, aD.shs), (38, [.str, .str, .bool, .int .i64, .int .i64, .int .i64, .int .i64, .row 50307 aF.ks 60 32, .row 50308 aA.ks 34 112, .int .i64, .row 50310 aB.ks 122 128, .row 50311 [.int .i64] 3 8, .int .i64, .row 50313 [.int .i64] 3 8, .bool, .int .i64, .str, .str, .int .i64, .bool, .int .i64, .int .i64, .str, .int .i64, .row 50324 aC.ks 130 32])], []⟩)]),
 (184, [(3, ⟨[(0, .str)], [], []⟩)]),
 (60, [(5, ⟨[(2, .ptr 1000000000 0), (3, .ptr 1000000001 0), (4, .ptr 1000000002 0), (7, .int .i64), (8, .ptr 1000000003 0)], [(29, aG.shs), (49, aE.shs), (29, aG.shs), (122, aB.shs)], []⟩)]),
 (83, [(3, ⟨[(1, .ptr 1000000000 0)], [(38, aD.shs)], []⟩), (5, ⟨[(1, .ptr 1000000000 0)], [(38, aD.shs)], []⟩)]),
 (143, [(4, ⟨[(5, .ptr 1000000000 0)], [(122, aB.shs)], []⟩)]),
 (85, [(3, ⟨[(1, .ptr 1000000000 0)], [(29, aG.shs)], []⟩)]),
 (144, [(3, ⟨[(2, .ptr 1000000000 0), (3, .ptr 1000000001 0)], [(34, aA.shs), (34, aA.shs)], []⟩)]),
 (48, [(3, ⟨[(0, .str)], [], []⟩)]),
 (41, [(3, ⟨[(1, .ptr 1000000000 0)], [(38, aD.shs)], []⟩), (5, ⟨[(1, .ptr 1000000000 0)], [(38, aD.shs)], []⟩)]),
 (167, [(9, ⟨[(3, .row 3003 [.str] 9 16), (4, .int .i64)], [], []⟩)]),
 (166, [(7, ⟨[(5, .str), (6, .int .i64)], [], []⟩), (9, ⟨[(5, .str), (6, .int .i64)], [], []⟩)]),
 (102, [(3, ⟨[(0, .str)], [], []⟩)]),
 (13, [(7, ⟨[(1, .ptr 1000000000 0)], [(34, aA.shs)], []⟩), (9, ⟨[(1, .ptr 1000000000 0)], [(34, aA.shs)], []⟩), (11, ⟨[(1, .ptr 1000000000 0)], [(34, aA.shs)], []⟩)]),
 (96, [(4, ⟨[(5, .ptr 1000000000 0)], [(122, aB.shs)], []⟩)]),
 (44, [(3, ⟨[(1, .ptr 1000000000 0)], [(29, aG.shs)], []⟩)])]
def eqL : List (Nat × List CK) := [(130, [.str, .str])]
def prL : List (Nat × Prim) := [(182, .cmpString), (201, .indexByte), (205, .countByte)]
def lbL : List (Nat × LibK) := [(68, .insert aF.ks 60 32), (178, .insert [.int .i64] 3 8), (176, .spec (ah3 [.int .i64] 3 8)), (155, .spec (ah3 aB.ks 122 128))]
def SE : Env := { fn := assoc fnL, ty := assoc tyL, tm := assoc tmL, mv := fun f => match assoc mvL f with | some b => b | none => false, eqt := assoc eqL, pv := fun _ => none, hl := fun f r => match assoc hlL f with | some l => assoc l r | none => none, hr := fun f r => match assoc hrL f with | some l => assoc l r | none => none, prim := assoc prL, lib := assoc lbL, na := fun f => match assoc naL f with | some l => l | none => [], cut := fun d t => (Nat.beq d 41 && Nat.beq t 23) }
def bP : ((List aC)) → Out := fun r => .ret [.row 0] [] [⟨aC.ks, 130, 32, (List.map aC.enc r)⟩]
theorem lM : ∀ y z, bP y = bP z → y = z := fun y z h => map_inj aC.inj (congrArg (fun o => cE 0 (Out.rws o)) h)
def cV : (aA) → Out := fun r => .ret [.agg [.d (.str r.Topic), .d (.str r.Payload), .d (.int .i64 r.Level), .d (.bool r.Retain), .d (.int .i64 r.Priority), .d (.int .i64 r.Expires), .d (.str r.From), .d (.int .i64 r.Seq), .row 0]] [] [⟨aC.ks, 130, 32, (List.map aC.enc r.Props)⟩]
theorem jT : ∀ y z, cV y = cV z → y = z := fun y z h => aA.inj (congrArg (fun o => [avD (aI 0 (cellsOf (aI 0 (Out.res o)))), avD (aI 1 (cellsOf (aI 0 (Out.res o)))), avD (aI 2 (cellsOf (aI 0 (Out.res o)))), avD (aI 3 (cellsOf (aI 0 (Out.res o)))), avD (aI 4 (cellsOf (aI 0 (Out.res o)))), avD (aI 5 (cellsOf (aI 0 (Out.res o)))), avD (aI 6 (cellsOf (aI 0 (Out.res o)))), avD (aI 7 (cellsOf (aI 0 (Out.res o)))), D.sl aC.ks (cE 0 (Out.rws o))]) h)
def k9 : (aG) → Out := fun r => .ret [.agg [.d (.int .i64 r.Limit), .row 0, .row 1, .d (.int .i64 r.Pool.Last)]] [] [⟨aB.ks, 122, 128, (List.map aB.enc r.Items)⟩, ⟨[.int .i64], 3, 8, (List.map (encI .i64) r.Pool.Used)⟩]
theorem afY : ∀ y z, k9 y = k9 z → y = z := fun y z h => aG.inj (congrArg (fun o => [avD (aI 0 (cellsOf (aI 0 (Out.res o)))), D.sl aB.ks (cE 0 (Out.rws o)), D.sl [.int .i64] (cE 1 (Out.rws o)), avD (aI 3 (cellsOf (aI 0 (Out.res o))))]) h)
def lZ : (aD) → Out := fun r => .ret [.agg [.d (.str r.Client), .d (.str r.User), .d (.bool r.Online), .d (.int .i64 r.Conn), .d (.int .i64 r.Expiry), .d (.int .i64 r.Until), .d (.int .i64 r.Dropped), .row 0, .row 1, .d (.int .i64 r.Out.Limit), .row 2, .row 3, .d (.int .i64 r.Out.Pool.Last), .row 4, .d (.bool r.Will.Set), .d (.int .i64 r.Will.Delay), .d (.str r.Will.Message.Topic), .d (.str r.Will.Message.Payload), .d (.int .i64 r.Will.Message.Level), .d (.bool r.Will.Message.Retain), .d (.int .i64 r.Will.Message.Priority), .d (.int .i64 r.Will.Message.Expires), .d (.str r.Will.Message.From), .d (.int .i64 r.Will.Message.Seq), .row 5]] [] [⟨aF.ks, 60, 32, (List.map aF.enc r.Subs)⟩, ⟨aA.ks, 34, 112, (List.map aA.enc r.Queue)⟩, ⟨aB.ks, 122, 128, (List.map aB.enc r.Out.Items)⟩, ⟨[.int .i64], 3, 8, (List.map (encI .i64) r.Out.Pool.Used)⟩, ⟨[.int .i64], 3, 8, (List.map (encI .i64) r.In.IDs)⟩, ⟨aC.ks, 130, 32, (List.map aC.enc r.Will.Message.Props)⟩]
theorem ahh : ∀ y z, lZ y = lZ z → y = z := fun y z h => aD.inj (congrArg (fun o => [avD (aI 0 (cellsOf (aI 0 (Out.res o)))), avD (aI 1 (cellsOf (aI 0 (Out.res o)))), avD (aI 2 (cellsOf (aI 0 (Out.res o)))), avD (aI 3 (cellsOf (aI 0 (Out.res o)))), avD (aI 4 (cellsOf (aI 0 (Out.res o)))), avD (aI 5 (cellsOf (aI 0 (Out.res o)))), avD (aI 6 (cellsOf (aI 0 (Out.res o)))), D.sl aF.ks (cE 0 (Out.rws o)), D.sl aA.ks (cE 1 (Out.rws o)), avD (aI 9 (cellsOf (aI 0 (Out.res o)))), D.sl aB.ks (cE 2 (Out.rws o)), D.sl [.int .i64] (cE 3 (Out.rws o)), avD (aI 12 (cellsOf (aI 0 (Out.res o)))), D.sl [.int .i64] (cE 4 (Out.rws o)), avD (aI 14 (cellsOf (aI 0 (Out.res o)))), avD (aI 15 (cellsOf (aI 0 (Out.res o)))), avD (aI 16 (cellsOf (aI 0 (Out.res o)))), avD (aI 17 (cellsOf (aI 0 (Out.res o)))), avD (aI 18 (cellsOf (aI 0 (Out.res o)))), avD (aI 19 (cellsOf (aI 0 (Out.res o)))), avD (aI 20 (cellsOf (aI 0 (Out.res o)))), avD (aI 21 (cellsOf (aI 0 (Out.res o)))), avD (aI 22 (cellsOf (aI 0 (Out.res o)))), avD (aI 23 (cellsOf (aI 0 (Out.res o)))), D.sl aC.ks (cE 5 (Out.rws o))]) h)
def cZ : (Bool) → Out := fun r => .ret [.d (.bool r)] [] []
theorem rC : ∀ y z, cZ y = cZ z → y = z := fun y z h => congrArg (fun o => bB (avD (aI 0 (Out.res o)))) h
def eY : (Str × Bool) → Out := fun r => .ret [.d (.str r.1), .d (.bool r.2)] [] []
theorem yS : ∀ y z, eY y = eY z → y = z := fun y z h => Prod.ext (congrArg (fun o => aV (avD (aI 0 (Out.res o)))) h) (congrArg (fun o => bB (avD (aI 1 (Out.res o)))) h)
def g7 : (Str × Bool) → Out := fun r => .ret [.d (.str r.1), .d (.bool r.2)] [] []
theorem abY : ∀ y z, g7 y = g7 z → y = z := fun y z h => Prod.ext (congrArg (fun o => aV (avD (aI 0 (Out.res o)))) h) (congrArg (fun o => bB (avD (aI 1 (Out.res o)))) h)
def eU : (Int) → Out := fun r => .ret [.d (.int .i64 r)] [] []
theorem y7 : ∀ y z, eU y = eU z → y = z := fun y z h => congrArg (fun o => aL (avD (aI 0 (Out.res o)))) h
def eD : (Int) → Out := fun r => .ret [.d (.int .i64 r)] [] []
theorem uF : ∀ y z, eD y = eD z → y = z := fun y z h => congrArg (fun o => aL (avD (aI 0 (Out.res o)))) h
def iY : (Str × Str × Bool) → Out := fun r => .ret [.d (.str r.1), .d (.str r.2.1), .d (.bool r.2.2)] [] []
theorem adt : ∀ y z, iY y = iY z → y = z := fun y z h => Prod.ext (congrArg (fun o => aV (avD (aI 0 (Out.res o)))) h) (Prod.ext (congrArg (fun o => aV (avD (aI 1 (Out.res o)))) h) (congrArg (fun o => bB (avD (aI 2 (Out.res o)))) h))
def l8 : (Str × Str × Bool) → Out := fun r => .ret [.d (.str r.1), .d (.str r.2.1), .d (.bool r.2.2)] [] []
theorem agP : ∀ y z, l8 y = l8 z → y = z := fun y z h => Prod.ext (congrArg (fun o => aV (avD (aI 0 (Out.res o)))) h) (Prod.ext (congrArg (fun o => aV (avD (aI 1 (Out.res o)))) h) (congrArg (fun o => bB (avD (aI 2 (Out.res o)))) h))
def dD : (Bool) → Out := fun r => .ret [.d (.bool r)] [] []
theorem sL : ∀ y z, dD y = dD z → y = z := fun y z h => congrArg (fun o => bB (avD (aI 0 (Out.res o)))) h
def fM : (Bool) → Out := fun r => .ret [.d (.bool r)] [] []
theorem aa1 : ∀ y z, fM y = fM z → y = z := fun y z h => congrArg (fun o => bB (avD (aI 0 (Out.res o)))) h
def gI : (Int) → Out := fun r => .ret [.d (.int .i64 r)] [] []
theorem yN : ∀ y z, gI y = gI z → y = z := fun y z h => congrArg (fun o => aL (avD (aI 0 (Out.res o)))) h
def iJ : (Int) → Out := fun r => .ret [.d (.int .i64 r)] [] []
theorem ae7 : ∀ y z, iJ y = iJ z → y = z := fun y z h => congrArg (fun o => aL (avD (aI 0 (Out.res o)))) h
def c9 : ((List Str)) → Out := fun r => .ret [.d (.sl [.str] (List.map bF r))] [] []
theorem acN : ∀ y z, c9 y = c9 z → y = z := fun y z h => map_inj aam (congrArg (fun o => dSl (avD (aI 0 (Out.res o)))) h)
def kF : ((List Str)) → Out := fun r => .ret [.d (.sl [.str] (List.map bF r))] [] []
theorem aeZ : ∀ y z, kF y = kF z → y = z := fun y z h => map_inj aam (congrArg (fun o => dSl (avD (aI 0 (Out.res o)))) h)
def lJ : ((List Str)) → Out := fun r => .ret [.d (.sl [.str] (List.map bF r))] [] []
theorem afZ : ∀ y z, lJ y = lJ z → y = z := fun y z h => map_inj aam (congrArg (fun o => dSl (avD (aI 0 (Out.res o)))) h)
def dX : (Bool) → Out := fun r => .ret [.d (.bool r)] [] []
theorem aao : ∀ y z, dX y = dX z → y = z := fun y z h => congrArg (fun o => bB (avD (aI 0 (Out.res o)))) h
def eA : (Bool) → Out := fun r => .ret [.d (.bool r)] [] []
theorem uR : ∀ y z, eA y = eA z → y = z := fun y z h => congrArg (fun o => bB (avD (aI 0 (Out.res o)))) h
def lH : (Str × Str × Bool) → Out := fun r => .ret [.d (.str r.1), .d (.str r.2.1), .d (.bool r.2.2)] [] []
theorem afw : ∀ y z, lH y = lH z → y = z := fun y z h => Prod.ext (congrArg (fun o => aV (avD (aI 0 (Out.res o)))) h) (Prod.ext (congrArg (fun o => aV (avD (aI 1 (Out.res o)))) h) (congrArg (fun o => bB (avD (aI 2 (Out.res o)))) h))
def gC : (Bool × aF) → Out := fun r => .ret [.d (.bool r.1)] [⟨60, (aF.avs r.2)⟩] []
theorem abh : ∀ y z, gC y = gC z → y = z := fun y z h => Prod.ext (congrArg (fun o => bB (avD (aI 0 (Out.res o)))) h) (aF.inj (congrArg (fun o => List.map avD (ak3 0 (Out.bxs o))) h))
def eP : (Int) → Out := fun r => .ret [.d (.int .i64 r)] [] []
theorem vD : ∀ y z, eP y = eP z → y = z := fun y z h => congrArg (fun o => aL (avD (aI 0 (Out.res o)))) h
def eV : (Int) → Out := fun r => .ret [.d (.int .i64 r)] [] []
theorem yY : ∀ y z, eV y = eV z → y = z := fun y z h => congrArg (fun o => aL (avD (aI 0 (Out.res o)))) h
def iW : (Int) → Out := fun r => .ret [.d (.int .i64 r)] [] []
theorem adx : ∀ y z, iW y = iW z → y = z := fun y z h => congrArg (fun o => aL (avD (aI 0 (Out.res o)))) h
def jK : (Int) → Out := fun r => .ret [.d (.int .i64 r)] [] []
theorem xD : ∀ y z, jK y = jK z → y = z := fun y z h => congrArg (fun o => aL (avD (aI 0 (Out.res o)))) h
def bH : (Int × Bool) → Out := fun r => .ret [.d (.int .i64 r.1), .d (.bool r.2)] [] []
theorem lX : ∀ y z, bH y = bH z → y = z := fun y z h => Prod.ext (congrArg (fun o => aL (avD (aI 0 (Out.res o)))) h) (congrArg (fun o => bB (avD (aI 1 (Out.res o)))) h)
def lK : (Int × Bool) → Out := fun r => .ret [.d (.int .i64 r.1), .d (.bool r.2)] [] []
theorem afy : ∀ y z, lK y = lK z → y = z := fun y z h => Prod.ext (congrArg (fun o => aL (avD (aI 0 (Out.res o)))) h) (congrArg (fun o => bB (avD (aI 1 (Out.res o)))) h)
def cN : ((List aF)) → Out := fun r => .ret [.row 0] [] [⟨aF.ks, 60, 32, (List.map aF.enc r)⟩]
theorem sG : ∀ y z, cN y = cN z → y = z := fun y z h => map_inj aF.inj (congrArg (fun o => cE 0 (Out.rws o)) h)
def bO : ((List Int)) → Out := fun r => .ret [.row 0] [] [⟨[.int .i64], 3, 8, (List.map (encI .i64) r)⟩]
theorem fQ : ∀ y z, bO y = bO z → y = z := fun y z h => map_inj (wT _) (congrArg (fun o => cE 0 (Out.rws o)) h)
def bU : (aD) → Out := fun r => .ret [.agg [.d (.str r.Client), .d (.str r.User), .d (.bool r.Online), .d (.int .i64 r.Conn), .d (.int .i64 r.Expiry), .d (.int .i64 r.Until), .d (.int .i64 r.Dropped), .row 0, .row 1, .d (.int .i64 r.Out.Limit), .row 2, .row 3, .d (.int .i64 r.Out.Pool.Last), .row 4, .d (.bool r.Will.Set), .d (.int .i64 r.Will.Delay), .d (.str r.Will.Message.Topic), .d (.str r.Will.Message.Payload), .d (.int .i64 r.Will.Message.Level), .d (.bool r.Will.Message.Retain), .d (.int .i64 r.Will.Message.Priority), .d (.int .i64 r.Will.Message.Expires), .d (.str r.Will.Message.From), .d (.int .i64 r.Will.Message.Seq), .row 5]] [] [⟨aF.ks, 60, 32, (List.map aF.enc r.Subs)⟩, ⟨aA.ks, 34, 112, (List.map aA.enc r.Queue)⟩, ⟨aB.ks, 122, 128, (List.map aB.enc r.Out.Items)⟩, ⟨[.int .i64], 3, 8, (List.map (encI .i64) r.Out.Pool.Used)⟩, ⟨[.int .i64], 3, 8, (List.map (encI .i64) r.In.IDs)⟩, ⟨aC.ks, 130, 32, (List.map aC.enc r.Will.Message.Props)⟩]
theorem iH : ∀ y z, bU y = bU z → y = z := fun y z h => aD.inj (congrArg (fun o => [avD (aI 0 (cellsOf (aI 0 (Out.res o)))), avD (aI 1 (cellsOf (aI 0 (Out.res o)))), avD (aI 2 (cellsOf (aI 0 (Out.res o)))), avD (aI 3 (cellsOf (aI 0 (Out.res o)))), avD (aI 4 (cellsOf (aI 0 (Out.res o)))), avD (aI 5 (cellsOf (aI 0 (Out.res o)))), avD (aI 6 (cellsOf (aI 0 (Out.res o)))), D.sl aF.ks (cE 0 (Out.rws o)), D.sl aA.ks (cE 1 (Out.rws o)), avD (aI 9 (cellsOf (aI 0 (Out.res o)))), D.sl aB.ks (cE 2 (Out.rws o)), D.sl [.int .i64] (cE 3 (Out.rws o)), avD (aI 12 (cellsOf (aI 0 (Out.res o)))), D.sl [.int .i64] (cE 4 (Out.rws o)), avD (aI 14 (cellsOf (aI 0 (Out.res o)))), avD (aI 15 (cellsOf (aI 0 (Out.res o)))), avD (aI 16 (cellsOf (aI 0 (Out.res o)))), avD (aI 17 (cellsOf (aI 0 (Out.res o)))), avD (aI 18 (cellsOf (aI 0 (Out.res o)))), avD (aI 19 (cellsOf (aI 0 (Out.res o)))), avD (aI 20 (cellsOf (aI 0 (Out.res o)))), avD (aI 21 (cellsOf (aI 0 (Out.res o)))), avD (aI 22 (cellsOf (aI 0 (Out.res o)))), avD (aI 23 (cellsOf (aI 0 (Out.res o)))), D.sl aC.ks (cE 5 (Out.rws o))]) h)
def cJ : ((List aF)) → Out := fun r => .ret [.row 0] [] [⟨aF.ks, 60, 32, (List.map aF.enc r)⟩]
theorem rN : ∀ y z, cJ y = cJ z → y = z := fun y z h => map_inj aF.inj (congrArg (fun o => cE 0 (Out.rws o)) h)
def eE : (aD × Bool × Int) → Out := fun r => .ret [.agg [.d (.str r.1.Client), .d (.str r.1.User), .d (.bool r.1.Online), .d (.int .i64 r.1.Conn), .d (.int .i64 r.1.Expiry), .d (.int .i64 r.1.Until), .d (.int .i64 r.1.Dropped), .row 0, .row 1, .d (.int .i64 r.1.Out.Limit), .row 2, .row 3, .d (.int .i64 r.1.Out.Pool.Last), .row 4, .d (.bool r.1.Will.Set), .d (.int .i64 r.1.Will.Delay), .d (.str r.1.Will.Message.Topic), .d (.str r.1.Will.Message.Payload), .d (.int .i64 r.1.Will.Message.Level), .d (.bool r.1.Will.Message.Retain), .d (.int .i64 r.1.Will.Message.Priority), .d (.int .i64 r.1.Will.Message.Expires), .d (.str r.1.Will.Message.From), .d (.int .i64 r.1.Will.Message.Seq), .row 5], .d (.bool r.2.1), .d (.int .i64 r.2.2)] [] [⟨aF.ks, 60, 32, (List.map aF.enc r.1.Subs)⟩, ⟨aA.ks, 34, 112, (List.map aA.enc r.1.Queue)⟩, ⟨aB.ks, 122, 128, (List.map aB.enc r.1.Out.Items)⟩, ⟨[.int .i64], 3, 8, (List.map (encI .i64) r.1.Out.Pool.Used)⟩, ⟨[.int .i64], 3, 8, (List.map (encI .i64) r.1.In.IDs)⟩, ⟨aC.ks, 130, 32, (List.map aC.enc r.1.Will.Message.Props)⟩]
theorem ab0 : ∀ y z, eE y = eE z → y = z := fun y z h => Prod.ext (aD.inj (congrArg (fun o => [avD (aI 0 (cellsOf (aI 0 (Out.res o)))), avD (aI 1 (cellsOf (aI 0 (Out.res o)))), avD (aI 2 (cellsOf (aI 0 (Out.res o)))), avD (aI 3 (cellsOf (aI 0 (Out.res o)))), avD (aI 4 (cellsOf (aI 0 (Out.res o)))), avD (aI 5 (cellsOf (aI 0 (Out.res o)))), avD (aI 6 (cellsOf (aI 0 (Out.res o)))), D.sl aF.ks (cE 0 (Out.rws o)), D.sl aA.ks (cE 1 (Out.rws o)), avD (aI 9 (cellsOf (aI 0 (Out.res o)))), D.sl aB.ks (cE 2 (Out.rws o)), D.sl [.int .i64] (cE 3 (Out.rws o)), avD (aI 12 (cellsOf (aI 0 (Out.res o)))), D.sl [.int .i64] (cE 4 (Out.rws o)), avD (aI 14 (cellsOf (aI 0 (Out.res o)))), avD (aI 15 (cellsOf (aI 0 (Out.res o)))), avD (aI 16 (cellsOf (aI 0 (Out.res o)))), avD (aI 17 (cellsOf (aI 0 (Out.res o)))), avD (aI 18 (cellsOf (aI 0 (Out.res o)))), avD (aI 19 (cellsOf (aI 0 (Out.res o)))), avD (aI 20 (cellsOf (aI 0 (Out.res o)))), avD (aI 21 (cellsOf (aI 0 (Out.res o)))), avD (aI 22 (cellsOf (aI 0 (Out.res o)))), avD (aI 23 (cellsOf (aI 0 (Out.res o)))), D.sl aC.ks (cE 5 (Out.rws o))]) h)) (Prod.ext (congrArg (fun o => bB (avD (aI 1 (Out.res o)))) h) (congrArg (fun o => aL (avD (aI 2 (Out.res o)))) h))
def dF : (aD) → Out := fun r => .ret [aD.av r] [] []
theorem nX : ∀ y z, dF y = dF z → y = z := fun y z h => aD.inj (congrArg (fun o => List.map avD (cellsOf (aI 0 (Out.res o)))) h)
def iS : (aA) → Out := fun r => .ret [.agg [.d (.str r.Topic), .d (.str r.Payload), .d (.int .i64 r.Level), .d (.bool r.Retain), .d (.int .i64 r.Priority), .d (.int .i64 r.Expires), .d (.str r.From), .d (.int .i64 r.Seq), .row 0]] [] [⟨aC.ks, 130, 32, (List.map aC.enc r.Props)⟩]
theorem oF : ∀ y z, iS y = iS z → y = z := fun y z h => aA.inj (congrArg (fun o => [avD (aI 0 (cellsOf (aI 0 (Out.res o)))), avD (aI 1 (cellsOf (aI 0 (Out.res o)))), avD (aI 2 (cellsOf (aI 0 (Out.res o)))), avD (aI 3 (cellsOf (aI 0 (Out.res o)))), avD (aI 4 (cellsOf (aI 0 (Out.res o)))), avD (aI 5 (cellsOf (aI 0 (Out.res o)))), avD (aI 6 (cellsOf (aI 0 (Out.res o)))), avD (aI 7 (cellsOf (aI 0 (Out.res o)))), D.sl aC.ks (cE 0 (Out.rws o))]) h)
def lE : ((List aA)) → Out := fun r => .ret [.row 0] [] [⟨aA.ks, 34, 112, (List.map aA.enc r)⟩]
theorem ahN : ∀ y z, lE y = lE z → y = z := fun y z h => map_inj aA.inj (congrArg (fun o => cE 0 (Out.rws o)) h)
def jF : ((List aA) × (List aA) × Bool) → Out := fun r => .ret [.row 0, .row 1, .d (.bool r.2.2)] [] [⟨aA.ks, 34, 112, (List.map aA.enc r.1)⟩, ⟨aA.ks, 34, 112, (List.map aA.enc r.2.1)⟩]
theorem aiN : ∀ y z, jF y = jF z → y = z := fun y z h => Prod.ext (map_inj aA.inj (congrArg (fun o => cE 0 (Out.rws o)) h)) (Prod.ext (map_inj aA.inj (congrArg (fun o => cE 1 (Out.rws o)) h)) (congrArg (fun o => bB (avD (aI 2 (Out.res o)))) h))
def iQ : (aD × Bool) → Out := fun r => .ret [aD.av r.1, .d (.bool r.2)] [] []
theorem yL : ∀ y z, iQ y = iQ z → y = z := fun y z h => Prod.ext (aD.inj (congrArg (fun o => List.map avD (cellsOf (aI 0 (Out.res o)))) h)) (congrArg (fun o => bB (avD (aI 1 (Out.res o)))) h)
def jC : (Bool) → Out := fun r => .ret [.d (.bool r)] [] []
theorem adG : ∀ y z, jC y = jC z → y = z := fun y z h => congrArg (fun o => bB (avD (aI 0 (Out.res o)))) h
def iO : (Int) → Out := fun r => .ret [.d (.int .i64 r)] [] []
theorem ae0 : ∀ y z, iO y = iO z → y = z := fun y z h => congrArg (fun o => aL (avD (aI 0 (Out.res o)))) h
def kA : (Bool) → Out := fun r => .ret [.d (.bool r)] [] []
theorem agV : ∀ y z, kA y = kA z → y = z := fun y z h => congrArg (fun o => bB (avD (aI 0 (Out.res o)))) h
def nC : (Bool) → Out := fun r => .ret [.d (.bool r)] [] []
theorem pS : ∀ y z, nC y = nC z → y = z := fun y z h => congrArg (fun o => bB (avD (aI 0 (Out.res o)))) h
def iT : (Bool) → Out := fun r => .ret [.d (.bool r)] [] []
theorem agf : ∀ y z, iT y = iT z → y = z := fun y z h => congrArg (fun o => bB (avD (aI 0 (Out.res o)))) h
def iL : (Int) → Out := fun r => .ret [.d (.int .i64 r)] [] []
theorem yJ : ∀ y z, iL y = iL z → y = z := fun y z h => congrArg (fun o => aL (avD (aI 0 (Out.res o)))) h
def c8 : (Int) → Out := fun r => .ret [.d (.int .i64 r)] [] []
theorem o6 : ∀ y z, c8 y = c8 z → y = z := fun y z h => congrArg (fun o => aL (avD (aI 0 (Out.res o)))) h
def nI : (Int) → Out := fun r => .ret [.d (.int .i64 r)] [] []
theorem ahu : ∀ y z, nI y = nI z → y = z := fun y z h => congrArg (fun o => aL (avD (aI 0 (Out.res o)))) h
def jR : (Bool) → Out := fun r => .ret [.d (.bool r)] [] []
theorem xV : ∀ y z, jR y = jR z → y = z := fun y z h => congrArg (fun o => bB (avD (aI 0 (Out.res o)))) h
def kH : (Bool) → Out := fun r => .ret [.d (.bool r)] [] []
theorem ae8 : ∀ y z, kH y = kH z → y = z := fun y z h => congrArg (fun o => bB (avD (aI 0 (Out.res o)))) h
def gZ : (Bool) → Out := fun r => .ret [.d (.bool r)] [] []
theorem uC : ∀ y z, gZ y = gZ z → y = z := fun y z h => congrArg (fun o => bB (avD (aI 0 (Out.res o)))) h
def bI : (Int × Bool) → Out := fun r => .ret [.d (.int .i64 r.1), .d (.bool r.2)] [] []
theorem iK : ∀ y z, bI y = bI z → y = z := fun y z h => Prod.ext (congrArg (fun o => aL (avD (aI 0 (Out.res o)))) h) (congrArg (fun o => bB (avD (aI 1 (Out.res o)))) h)
def dP : ((List Int)) → Out := fun r => .ret [.row 0] [] [⟨[.int .i64], 3, 8, (List.map (encI .i64) r)⟩]
theorem wP : ∀ y z, dP y = dP z → y = z := fun y z h => map_inj (wT _) (congrArg (fun o => cE 0 (Out.rws o)) h)
def lB : (Int × aJ × Int) → Out := fun r => .ret [.d (.int .i64 r.1), .agg [.row 0, .d (.int .i64 r.2.1.Last)], .d (.int .i64 r.2.2)] [] [⟨[.int .i64], 3, 8, (List.map (encI .i64) r.2.1.Used)⟩]
theorem ahA : ∀ y z, lB y = lB z → y = z := fun y z h => Prod.ext (congrArg (fun o => aL (avD (aI 0 (Out.res o)))) h) (Prod.ext (aJ.inj (congrArg (fun o => [D.sl [.int .i64] (cE 0 (Out.rws o)), avD (aI 1 (cellsOf (aI 1 (Out.res o))))]) h)) (congrArg (fun o => aL (avD (aI 2 (Out.res o)))) h))
def dE : (aA) → Out := fun r => .ret [.agg [.d (.str r.Topic), .d (.str r.Payload), .d (.int .i64 r.Level), .d (.bool r.Retain), .d (.int .i64 r.Priority), .d (.int .i64 r.Expires), .d (.str r.From), .d (.int .i64 r.Seq), .row 0]] [] [⟨aC.ks, 130, 32, (List.map aC.enc r.Props)⟩]
theorem qR : ∀ y z, dE y = dE z → y = z := fun y z h => aA.inj (congrArg (fun o => [avD (aI 0 (cellsOf (aI 0 (Out.res o)))), avD (aI 1 (cellsOf (aI 0 (Out.res o)))), avD (aI 2 (cellsOf (aI 0 (Out.res o)))), avD (aI 3 (cellsOf (aI 0 (Out.res o)))), avD (aI 4 (cellsOf (aI 0 (Out.res o)))), avD (aI 5 (cellsOf (aI 0 (Out.res o)))), avD (aI 6 (cellsOf (aI 0 (Out.res o)))), avD (aI 7 (cellsOf (aI 0 (Out.res o)))), D.sl aC.ks (cE 0 (Out.rws o))]) h)
def dA : (aG) → Out := fun r => .ret [.agg [.d (.int .i64 r.Limit), .row 0, .row 1, .d (.int .i64 r.Pool.Last)]] [] [⟨aB.ks, 122, 128, (List.map aB.enc r.Items)⟩, ⟨[.int .i64], 3, 8, (List.map (encI .i64) r.Pool.Used)⟩]
theorem j0 : ∀ y z, dA y = dA z → y = z := fun y z h => aG.inj (congrArg (fun o => [avD (aI 0 (cellsOf (aI 0 (Out.res o)))), D.sl aB.ks (cE 0 (Out.rws o)), D.sl [.int .i64] (cE 1 (Out.rws o)), avD (aI 3 (cellsOf (aI 0 (Out.res o))))]) h)
def eO : (aE) → Out := fun r => .ret [.agg [.d (.int .i64 r.Kind), .d (.int .i64 r.ID), .d (.bool r.Dup), .d (.str r.Message.Topic), .d (.str r.Message.Payload), .d (.int .i64 r.Message.Level), .d (.bool r.Message.Retain), .d (.int .i64 r.Message.Priority), .d (.int .i64 r.Message.Expires), .d (.str r.Message.From), .d (.int .i64 r.Message.Seq), .row 0, .d (.str r.Client), .d (.str r.User), .d (.bool r.Clean), .d (.int .i64 r.Keep), .d (.int .i64 r.Expiry), .d (.int .i64 r.Window), .d (.bool r.Will.Set), .d (.int .i64 r.Will.Delay), .d (.str r.Will.Message.Topic), .d (.str r.Will.Message.Payload), .d (.int .i64 r.Will.Message.Level), .d (.bool r.Will.Message.Retain), .d (.int .i64 r.Will.Message.Priority), .d (.int .i64 r.Will.Message.Expires), .d (.str r.Will.Message.From), .d (.int .i64 r.Will.Message.Seq), .row 1, .d (.bool r.Present), .d (.int .i64 r.Code), .row 2, .row 3, .row 4]] [] [⟨aC.ks, 130, 32, (List.map aC.enc r.Message.Props)⟩, ⟨aC.ks, 130, 32, (List.map aC.enc r.Will.Message.Props)⟩, ⟨aF.ks, 60, 32, (List.map aF.enc r.Subs)⟩, ⟨[.str], 9, 16, (List.map bF r.Filters)⟩, ⟨[.int .i64], 3, 8, (List.map (encI .i64) r.Codes)⟩]
theorem vB : ∀ y z, eO y = eO z → y = z := fun y z h => aE.inj (congrArg (fun o => [avD (aI 0 (cellsOf (aI 0 (Out.res o)))), avD (aI 1 (cellsOf (aI 0 (Out.res o)))), avD (aI 2 (cellsOf (aI 0 (Out.res o)))), avD (aI 3 (cellsOf (aI 0 (Out.res o)))), avD (aI 4 (cellsOf (aI 0 (Out.res o)))), avD (aI 5 (cellsOf (aI 0 (Out.res o)))), avD (aI 6 (cellsOf (aI 0 (Out.res o)))), avD (aI 7 (cellsOf (aI 0 (Out.res o)))), avD (aI 8 (cellsOf (aI 0 (Out.res o)))), avD (aI 9 (cellsOf (aI 0 (Out.res o)))), avD (aI 10 (cellsOf (aI 0 (Out.res o)))), D.sl aC.ks (cE 0 (Out.rws o)), avD (aI 12 (cellsOf (aI 0 (Out.res o)))), avD (aI 13 (cellsOf (aI 0 (Out.res o)))), avD (aI 14 (cellsOf (aI 0 (Out.res o)))), avD (aI 15 (cellsOf (aI 0 (Out.res o)))), avD (aI 16 (cellsOf (aI 0 (Out.res o)))), avD (aI 17 (cellsOf (aI 0 (Out.res o)))), avD (aI 18 (cellsOf (aI 0 (Out.res o)))), avD (aI 19 (cellsOf (aI 0 (Out.res o)))), avD (aI 20 (cellsOf (aI 0 (Out.res o)))), avD (aI 21 (cellsOf (aI 0 (Out.res o)))), avD (aI 22 (cellsOf (aI 0 (Out.res o)))), avD (aI 23 (cellsOf (aI 0 (Out.res o)))), avD (aI 24 (cellsOf (aI 0 (Out.res o)))), avD (aI 25 (cellsOf (aI 0 (Out.res o)))), avD (aI 26 (cellsOf (aI 0 (Out.res o)))), avD (aI 27 (cellsOf (aI 0 (Out.res o)))), D.sl aC.ks (cE 1 (Out.rws o)), avD (aI 29 (cellsOf (aI 0 (Out.res o)))), avD (aI 30 (cellsOf (aI 0 (Out.res o)))), D.sl aF.ks (cE 2 (Out.rws o)), D.sl [.str] (cE 3 (Out.rws o)), D.sl [.int .i64] (cE 4 (Out.rws o))]) h)
def hZ : (aG × aE × Int) → Out := fun r => .ret [.agg [.d (.int .i64 r.1.Limit), .row 0, .row 1, .d (.int .i64 r.1.Pool.Last)], .agg [.d (.int .i64 r.2.1.Kind), .d (.int .i64 r.2.1.ID), .d (.bool r.2.1.Dup), .d (.str r.2.1.Message.Topic), .d (.str r.2.1.Message.Payload), .d (.int .i64 r.2.1.Message.Level), .d (.bool r.2.1.Message.Retain), .d (.int .i64 r.2.1.Message.Priority), .d (.int .i64 r.2.1.Message.Expires), .d (.str r.2.1.Message.From), .d (.int .i64 r.2.1.Message.Seq), .row 2, .d (.str r.2.1.Client), .d (.str r.2.1.User), .d (.bool r.2.1.Clean), .d (.int .i64 r.2.1.Keep), .d (.int .i64 r.2.1.Expiry), .d (.int .i64 r.2.1.Window), .d (.bool r.2.1.Will.Set), .d (.int .i64 r.2.1.Will.Delay), .d (.str r.2.1.Will.Message.Topic), .d (.str r.2.1.Will.Message.Payload), .d (.int .i64 r.2.1.Will.Message.Level), .d (.bool r.2.1.Will.Message.Retain), .d (.int .i64 r.2.1.Will.Message.Priority), .d (.int .i64 r.2.1.Will.Message.Expires), .d (.str r.2.1.Will.Message.From), .d (.int .i64 r.2.1.Will.Message.Seq), .row 3, .d (.bool r.2.1.Present), .d (.int .i64 r.2.1.Code), .row 4, .row 5, .row 6], .d (.int .i64 r.2.2)] [] [⟨aB.ks, 122, 128, (List.map aB.enc r.1.Items)⟩, ⟨[.int .i64], 3, 8, (List.map (encI .i64) r.1.Pool.Used)⟩, ⟨aC.ks, 130, 32, (List.map aC.enc r.2.1.Message.Props)⟩, ⟨aC.ks, 130, 32, (List.map aC.enc r.2.1.Will.Message.Props)⟩, ⟨aF.ks, 60, 32, (List.map aF.enc r.2.1.Subs)⟩, ⟨[.str], 9, 16, (List.map bF r.2.1.Filters)⟩, ⟨[.int .i64], 3, 8, (List.map (encI .i64) r.2.1.Codes)⟩]
theorem adL : ∀ y z, hZ y = hZ z → y = z := fun y z h => Prod.ext (aG.inj (congrArg (fun o => [avD (aI 0 (cellsOf (aI 0 (Out.res o)))), D.sl aB.ks (cE 0 (Out.rws o)), D.sl [.int .i64] (cE 1 (Out.rws o)), avD (aI 3 (cellsOf (aI 0 (Out.res o))))]) h)) (Prod.ext (aE.inj (congrArg (fun o => [avD (aI 0 (cellsOf (aI 1 (Out.res o)))), avD (aI 1 (cellsOf (aI 1 (Out.res o)))), avD (aI 2 (cellsOf (aI 1 (Out.res o)))), avD (aI 3 (cellsOf (aI 1 (Out.res o)))), avD (aI 4 (cellsOf (aI 1 (Out.res o)))), avD (aI 5 (cellsOf (aI 1 (Out.res o)))), avD (aI 6 (cellsOf (aI 1 (Out.res o)))), avD (aI 7 (cellsOf (aI 1 (Out.res o)))), avD (aI 8 (cellsOf (aI 1 (Out.res o)))), avD (aI 9 (cellsOf (aI 1 (Out.res o)))), avD (aI 10 (cellsOf (aI 1 (Out.res o)))), D.sl aC.ks (cE 2 (Out.rws o)), avD (aI 12 (cellsOf (aI 1 (Out.res o)))), avD (aI 13 (cellsOf (aI 1 (Out.res o)))), avD (aI 14 (cellsOf (aI 1 (Out.res o)))), avD (aI 15 (cellsOf (aI 1 (Out.res o)))), avD (aI 16 (cellsOf (aI 1 (Out.res o)))), avD (aI 17 (cellsOf (aI 1 (Out.res o)))), avD (aI 18 (cellsOf (aI 1 (Out.res o)))), avD (aI 19 (cellsOf (aI 1 (Out.res o)))), avD (aI 20 (cellsOf (aI 1 (Out.res o)))), avD (aI 21 (cellsOf (aI 1 (Out.res o)))), avD (aI 22 (cellsOf (aI 1 (Out.res o)))), avD (aI 23 (cellsOf (aI 1 (Out.res o)))), avD (aI 24 (cellsOf (aI 1 (Out.res o)))), avD (aI 25 (cellsOf (aI 1 (Out.res o)))), avD (aI 26 (cellsOf (aI 1 (Out.res o)))), avD (aI 27 (cellsOf (aI 1 (Out.res o)))), D.sl aC.ks (cE 3 (Out.rws o)), avD (aI 29 (cellsOf (aI 1 (Out.res o)))), avD (aI 30 (cellsOf (aI 1 (Out.res o)))), D.sl aF.ks (cE 4 (Out.rws o)), D.sl [.str] (cE 5 (Out.rws o)), D.sl [.int .i64] (cE 6 (Out.rws o))]) h)) (congrArg (fun o => aL (avD (aI 2 (Out.res o)))) h))
def dS : (aD × (List aE)) → Out := fun r => .ret [aD.av r.1, .row 0] [] [⟨aE.ks, 49, 416, (List.map aE.enc r.2)⟩]
theorem tY : ∀ y z, dS y = dS z → y = z := fun y z h => Prod.ext (aD.inj (congrArg (fun o => List.map avD (cellsOf (aI 0 (Out.res o)))) h)) (map_inj aE.inj (congrArg (fun o => cE 0 (Out.rws o)) h))
def lI : (aD × (List aE)) → Out := fun r => .ret [aD.av r.1, .row 0] [] [⟨aE.ks, 49, 416, (List.map aE.enc r.2)⟩]
theorem afX : ∀ y z, lI y = lI z → y = z := fun y z h => Prod.ext (aD.inj (congrArg (fun o => List.map avD (cellsOf (aI 0 (Out.res o)))) h)) (map_inj aE.inj (congrArg (fun o => cE 0 (Out.rws o)) h))
def iZ : (Bool × Int) → Out := fun r => .ret [.d (.bool r.1)] [⟨3, [.d (.int .i64 r.2)]⟩] []
theorem adD : ∀ y z, iZ y = iZ z → y = z := fun y z h => Prod.ext (congrArg (fun o => bB (avD (aI 0 (Out.res o)))) h) (congrArg (fun o => aL (avD (aI 0 (ak3 0 (Out.bxs o))))) h)
def bL : (Int × Int) → Out := fun r => .ret [.d (.int .i64 r.1)] [⟨3, [.d (.int .i64 r.2)]⟩] []
theorem oE : ∀ y z, bL y = bL z → y = z := fun y z h => Prod.ext (congrArg (fun o => aL (avD (aI 0 (Out.res o)))) h) (congrArg (fun o => aL (avD (aI 0 (ak3 0 (Out.bxs o))))) h)
def gJ : (Int) → Out := fun r => .ret [.d (.int .i64 r)] [] []
theorem yQ : ∀ y z, gJ y = gJ z → y = z := fun y z h => congrArg (fun o => aL (avD (aI 0 (Out.res o)))) h
def dQ : ((List Int)) → Out := fun r => .ret [.row 0] [] [⟨[.int .i64], 3, 8, (List.map (encI .i64) r)⟩]
theorem wE : ∀ y z, dQ y = dQ z → y = z := fun y z h => map_inj (wT _) (congrArg (fun o => cE 0 (Out.rws o)) h)
def nG : (aJ × Bool) → Out := fun r => .ret [.agg [.row 0, .d (.int .i64 r.1.Last)], .d (.bool r.2)] [] [⟨[.int .i64], 3, 8, (List.map (encI .i64) r.1.Used)⟩]
theorem ahL : ∀ y z, nG y = nG z → y = z := fun y z h => Prod.ext (aJ.inj (congrArg (fun o => [D.sl [.int .i64] (cE 0 (Out.rws o)), avD (aI 1 (cellsOf (aI 0 (Out.res o))))]) h)) (congrArg (fun o => bB (avD (aI 1 (Out.res o)))) h)
def cA : ((List aB)) → Out := fun r => .ret [.row 0] [] [⟨aB.ks, 122, 128, (List.map aB.enc r)⟩]
theorem pN : ∀ y z, cA y = cA z → y = z := fun y z h => map_inj aB.inj (congrArg (fun o => cE 0 (Out.rws o)) h)
def iX : (aG) → Out := fun r => .ret [.agg [.d (.int .i64 r.Limit), .row 0, .row 1, .d (.int .i64 r.Pool.Last)]] [] [⟨aB.ks, 122, 128, (List.map aB.enc r.Items)⟩, ⟨[.int .i64], 3, 8, (List.map (encI .i64) r.Pool.Used)⟩]
theorem v7 : ∀ y z, iX y = iX z → y = z := fun y z h => aG.inj (congrArg (fun o => [avD (aI 0 (cellsOf (aI 0 (Out.res o)))), D.sl aB.ks (cE 0 (Out.rws o)), D.sl [.int .i64] (cE 1 (Out.rws o)), avD (aI 3 (cellsOf (aI 0 (Out.res o))))]) h)
def fB : (aE) → Out := fun r => .ret [.agg [.d (.int .i64 r.Kind), .d (.int .i64 r.ID), .d (.bool r.Dup), .d (.str r.Message.Topic), .d (.str r.Message.Payload), .d (.int .i64 r.Message.Level), .d (.bool r.Message.Retain), .d (.int .i64 r.Message.Priority), .d (.int .i64 r.Message.Expires), .d (.str r.Message.From), .d (.int .i64 r.Message.Seq), .row 0, .d (.str r.Client), .d (.str r.User), .d (.bool r.Clean), .d (.int .i64 r.Keep), .d (.int .i64 r.Expiry), .d (.int .i64 r.Window), .d (.bool r.Will.Set), .d (.int .i64 r.Will.Delay), .d (.str r.Will.Message.Topic), .d (.str r.Will.Message.Payload), .d (.int .i64 r.Will.Message.Level), .d (.bool r.Will.Message.Retain), .d (.int .i64 r.Will.Message.Priority), .d (.int .i64 r.Will.Message.Expires), .d (.str r.Will.Message.From), .d (.int .i64 r.Will.Message.Seq), .row 1, .d (.bool r.Present), .d (.int .i64 r.Code), .row 2, .row 3, .row 4]] [] [⟨aC.ks, 130, 32, (List.map aC.enc r.Message.Props)⟩, ⟨aC.ks, 130, 32, (List.map aC.enc r.Will.Message.Props)⟩, ⟨aF.ks, 60, 32, (List.map aF.enc r.Subs)⟩, ⟨[.str], 9, 16, (List.map bF r.Filters)⟩, ⟨[.int .i64], 3, 8, (List.map (encI .i64) r.Codes)⟩]
theorem qS : ∀ y z, fB y = fB z → y = z := fun y z h => aE.inj (congrArg (fun o => [avD (aI 0 (cellsOf (aI 0 (Out.res o)))), avD (aI 1 (cellsOf (aI 0 (Out.res o)))), avD (aI 2 (cellsOf (aI 0 (Out.res o)))), avD (aI 3 (cellsOf (aI 0 (Out.res o)))), avD (aI 4 (cellsOf (aI 0 (Out.res o)))), avD (aI 5 (cellsOf (aI 0 (Out.res o)))), avD (aI 6 (cellsOf (aI 0 (Out.res o)))), avD (aI 7 (cellsOf (aI 0 (Out.res o)))), avD (aI 8 (cellsOf (aI 0 (Out.res o)))), avD (aI 9 (cellsOf (aI 0 (Out.res o)))), avD (aI 10 (cellsOf (aI 0 (Out.res o)))), D.sl aC.ks (cE 0 (Out.rws o)), avD (aI 12 (cellsOf (aI 0 (Out.res o)))), avD (aI 13 (cellsOf (aI 0 (Out.res o)))), avD (aI 14 (cellsOf (aI 0 (Out.res o)))), avD (aI 15 (cellsOf (aI 0 (Out.res o)))), avD (aI 16 (cellsOf (aI 0 (Out.res o)))), avD (aI 17 (cellsOf (aI 0 (Out.res o)))), avD (aI 18 (cellsOf (aI 0 (Out.res o)))), avD (aI 19 (cellsOf (aI 0 (Out.res o)))), avD (aI 20 (cellsOf (aI 0 (Out.res o)))), avD (aI 21 (cellsOf (aI 0 (Out.res o)))), avD (aI 22 (cellsOf (aI 0 (Out.res o)))), avD (aI 23 (cellsOf (aI 0 (Out.res o)))), avD (aI 24 (cellsOf (aI 0 (Out.res o)))), avD (aI 25 (cellsOf (aI 0 (Out.res o)))), avD (aI 26 (cellsOf (aI 0 (Out.res o)))), avD (aI 27 (cellsOf (aI 0 (Out.res o)))), D.sl aC.ks (cE 1 (Out.rws o)), avD (aI 29 (cellsOf (aI 0 (Out.res o)))), avD (aI 30 (cellsOf (aI 0 (Out.res o)))), D.sl aF.ks (cE 2 (Out.rws o)), D.sl [.str] (cE 3 (Out.rws o)), D.sl [.int .i64] (cE 4 (Out.rws o))]) h)
def e9 : (aG × (List aE) × Int) → Out := fun r => .ret [.agg [.d (.int .i64 r.1.Limit), .row 0, .row 1, .d (.int .i64 r.1.Pool.Last)], .row 2, .d (.int .i64 r.2.2)] [] [⟨aB.ks, 122, 128, (List.map aB.enc r.1.Items)⟩, ⟨[.int .i64], 3, 8, (List.map (encI .i64) r.1.Pool.Used)⟩, ⟨aE.ks, 49, 416, (List.map aE.enc r.2.1)⟩]
theorem ady : ∀ y z, e9 y = e9 z → y = z := fun y z h => Prod.ext (aG.inj (congrArg (fun o => [avD (aI 0 (cellsOf (aI 0 (Out.res o)))), D.sl aB.ks (cE 0 (Out.rws o)), D.sl [.int .i64] (cE 1 (Out.rws o)), avD (aI 3 (cellsOf (aI 0 (Out.res o))))]) h)) (Prod.ext (map_inj aE.inj (congrArg (fun o => cE 2 (Out.rws o)) h)) (congrArg (fun o => aL (avD (aI 2 (Out.res o)))) h))
def jX : (aD × (List aE) × Int) → Out := fun r => .ret [aD.av r.1, .row 0, .d (.int .i64 r.2.2)] [] [⟨aE.ks, 49, 416, (List.map aE.enc r.2.1)⟩]
theorem adT : ∀ y z, jX y = jX z → y = z := fun y z h => Prod.ext (aD.inj (congrArg (fun o => List.map avD (cellsOf (aI 0 (Out.res o)))) h)) (Prod.ext (map_inj aE.inj (congrArg (fun o => cE 0 (Out.rws o)) h)) (congrArg (fun o => aL (avD (aI 2 (Out.res o)))) h))
def eF : (Bool) → Out := fun r => .ret [.d (.bool r)] [] []
theorem uO : ∀ y z, eF y = eF z → y = z := fun y z h => congrArg (fun o => bB (avD (aI 0 (Out.res o)))) h
def bJ : (Int) → Out := fun r => .ret [.d (.int .i64 r)] [] []
theorem nZ : ∀ y z, bJ y = bJ z → y = z := fun y z h => congrArg (fun o => aL (avD (aI 0 (Out.res o)))) h
def bG : ((List aA)) → Out := fun r => .ret [.row 0] [] [⟨aA.ks, 34, 112, (List.map aA.enc r)⟩]
theorem nT : ∀ y z, bG y = bG z → y = z := fun y z h => map_inj aA.inj (congrArg (fun o => cE 0 (Out.rws o)) h)
def iV : (aD) → Out := fun r => .ret [aD.av r] [] []
theorem ads : ∀ y z, iV y = iV z → y = z := fun y z h => aD.inj (congrArg (fun o => List.map avD (cellsOf (aI 0 (Out.res o)))) h)
def gP : ((List aE)) → Out := fun r => .ret [.row 0] [] [⟨aE.ks, 49, 416, (List.map aE.enc r)⟩]
theorem adC : ∀ y z, gP y = gP z → y = z := fun y z h => map_inj aE.inj (congrArg (fun o => cE 0 (Out.rws o)) h)
def jM : (aD × (List aE)) → Out := fun r => .ret [aD.av r.1, .row 0] [] [⟨aE.ks, 49, 416, (List.map aE.enc r.2)⟩]
theorem aer : ∀ y z, jM y = jM z → y = z := fun y z h => Prod.ext (aD.inj (congrArg (fun o => List.map avD (cellsOf (aI 0 (Out.res o)))) h)) (map_inj aE.inj (congrArg (fun o => cE 0 (Out.rws o)) h))
def jA : (Bool) → Out := fun r => .ret [.d (.bool r)] [] []
theorem vY : ∀ y z, jA y = jA z → y = z := fun y z h => congrArg (fun o => bB (avD (aI 0 (Out.res o)))) h
def fH : (Bool) → Out := fun r => .ret [.d (.bool r)] [] []
theorem abT : ∀ y z, fH y = fH z → y = z := fun y z h => congrArg (fun o => bB (avD (aI 0 (Out.res o)))) h
def kZ : (Bool) → Out := fun r => .ret [.d (.bool r)] [] []
theorem zY : ∀ y z, kZ y = kZ z → y = z := fun y z h => congrArg (fun o => bB (avD (aI 0 (Out.res o)))) h
def eG : (Int) → Out := fun r => .ret [.d (.int .i64 r)] [] []
theorem abL : ∀ y z, eG y = eG z → y = z := fun y z h => congrArg (fun o => aL (avD (aI 0 (Out.res o)))) h
def dN : (Int) → Out := fun r => .ret [.d (.int .i64 r)] [] []
theorem abr : ∀ y z, dN y = dN z → y = z := fun y z h => congrArg (fun o => aL (avD (aI 0 (Out.res o)))) h
def kB : (Int) → Out := fun r => .ret [.d (.int .i64 r)] [] []
theorem aga : ∀ y z, kB y = kB z → y = z := fun y z h => congrArg (fun o => aL (avD (aI 0 (Out.res o)))) h
def n6 : (Bool) → Out := fun r => .ret [.d (.bool r)] [] []
theorem aiM : ∀ y z, n6 y = n6 z → y = z := fun y z h => congrArg (fun o => bB (avD (aI 0 (Out.res o)))) h
def eR : (Int) → Out := fun r => .ret [.d (.int .i64 r)] [] []
theorem abg : ∀ y z, eR y = eR z → y = z := fun y z h => congrArg (fun o => aL (avD (aI 0 (Out.res o)))) h
def fP : (Int) → Out := fun r => .ret [.d (.int .i64 r)] [] []
theorem aei : ∀ y z, fP y = fP z → y = z := fun y z h => congrArg (fun o => aL (avD (aI 0 (Out.res o)))) h
def iI : (Int) → Out := fun r => .ret [.d (.int .i64 r)] [] []
theorem ae9 : ∀ y z, iI y = iI z → y = z := fun y z h => congrArg (fun o => aL (avD (aI 0 (Out.res o)))) h
def iC : (Bool) → Out := fun r => .ret [.d (.bool r)] [] []
theorem afH : ∀ y z, iC y = iC z → y = z := fun y z h => congrArg (fun o => bB (avD (aI 0 (Out.res o)))) h
def nH : (Int) → Out := fun r => .ret [.d (.int .i64 r)] [] []
theorem ahi : ∀ y z, nH y = nH z → y = z := fun y z h => congrArg (fun o => aL (avD (aI 0 (Out.res o)))) h
def kK : (Int) → Out := fun r => .ret [.d (.int .i64 r)] [] []
theorem ae5 : ∀ y z, kK y = kK z → y = z := fun y z h => congrArg (fun o => aL (avD (aI 0 (Out.res o)))) h
def gY : (Bool) → Out := fun r => .ret [.d (.bool r)] [] []
theorem uK : ∀ y z, gY y = gY z → y = z := fun y z h => congrArg (fun o => bB (avD (aI 0 (Out.res o)))) h
def g5 : (Bool) → Out := fun r => .ret [.d (.bool r)] [] []
theorem ab5 : ∀ y z, g5 y = g5 z → y = z := fun y z h => congrArg (fun o => bB (avD (aI 0 (Out.res o)))) h
def cI : (Bool) → Out := fun r => .ret [.d (.bool r)] [] []
theorem m5 : ∀ y z, cI y = cI z → y = z := fun y z h => congrArg (fun o => bB (avD (aI 0 (Out.res o)))) h
def jP : (Bool) → Out := fun r => .ret [.d (.bool r)] [] []
theorem rT : ∀ y z, jP y = jP z → y = z := fun y z h => congrArg (fun o => bB (avD (aI 0 (Out.res o)))) h
def eQ : (Int) → Out := fun r => .ret [.d (.int .i64 r)] [] []
theorem acx : ∀ y z, eQ y = eQ z → y = z := fun y z h => congrArg (fun o => aL (avD (aI 0 (Out.res o)))) h
def dL : (Bool) → Out := fun r => .ret [.d (.bool r)] [] []
theorem oU : ∀ y z, dL y = dL z → y = z := fun y z h => congrArg (fun o => bB (avD (aI 0 (Out.res o)))) h
def cY : (Bool) → Out := fun r => .ret [.d (.bool r)] [] []
theorem kX : ∀ y z, cY y = cY z → y = z := fun y z h => congrArg (fun o => bB (avD (aI 0 (Out.res o)))) h
def cO : ((List Str)) → Out := fun r => .ret [.row 0] [] [⟨[.str], 9, 16, (List.map bF r)⟩]
theorem tD : ∀ y z, cO y = cO z → y = z := fun y z h => map_inj aam (congrArg (fun o => cE 0 (Out.rws o)) h)
def dB : (Bool) → Out := fun r => .ret [.d (.bool r)] [] []
theorem uQ : ∀ y z, dB y = dB z → y = z := fun y z h => congrArg (fun o => bB (avD (aI 0 (Out.res o)))) h
def cF : (Bool) → Out := fun r => .ret [.d (.bool r)] [] []
theorem tI : ∀ y z, cF y = cF z → y = z := fun y z h => congrArg (fun o => bB (avD (aI 0 (Out.res o)))) h
def cH : (Str × Str × Bool) → Out := fun r => .ret [.d (.str r.1), .d (.str r.2.1), .d (.bool r.2.2)] [] []
theorem tA : ∀ y z, cH y = cH z → y = z := fun y z h => Prod.ext (congrArg (fun o => aV (avD (aI 0 (Out.res o)))) h) (Prod.ext (congrArg (fun o => aV (avD (aI 1 (Out.res o)))) h) (congrArg (fun o => bB (avD (aI 2 (Out.res o)))) h))
def gD : (Bool) → Out := fun r => .ret [.d (.bool r)] [] []
theorem abk : ∀ y z, gD y = gD z → y = z := fun y z h => congrArg (fun o => bB (avD (aI 0 (Out.res o)))) h
def g8 : (Bool) → Out := fun r => .ret [.d (.bool r)] [] []
theorem abx : ∀ y z, g8 y = g8 z → y = z := fun y z h => congrArg (fun o => bB (avD (aI 0 (Out.res o)))) h
def gE : (Bool) → Out := fun r => .ret [.d (.bool r)] [] []
theorem abt : ∀ y z, gE y = gE z → y = z := fun y z h => congrArg (fun o => bB (avD (aI 0 (Out.res o)))) h
def jB : (Int) → Out := fun r => .ret [.d (.int .i64 r)] [] []
theorem adz : ∀ y z, jB y = jB z → y = z := fun y z h => congrArg (fun o => aL (avD (aI 0 (Out.res o)))) h
def fV : (Int) → Out := fun r => .ret [.d (.int .i64 r)] [] []
theorem ac8 : ∀ y z, fV y = fV z → y = z := fun y z h => congrArg (fun o => aL (avD (aI 0 (Out.res o)))) h
def hH : (Bool) → Out := fun r => .ret [.d (.bool r)] [] []
theorem acm : ∀ y z, hH y = hH z → y = z := fun y z h => congrArg (fun o => bB (avD (aI 0 (Out.res o)))) h
def fC : (Bool) → Out := fun r => .ret [.d (.bool r)] [] []
theorem adE : ∀ y z, fC y = fC z → y = z := fun y z h => congrArg (fun o => bB (avD (aI 0 (Out.res o)))) h
def fJ : (Int) → Out := fun r => .ret [.d (.int .i64 r)] [] []
theorem abC : ∀ y z, fJ y = fJ z → y = z := fun y z h => congrArg (fun o => aL (avD (aI 0 (Out.res o)))) h
def bZ : (Int) → Out := fun r => .ret [.d (.int .i64 r)] [] []
theorem pE : ∀ y z, bZ y = bZ z → y = z := fun y z h => congrArg (fun o => aL (avD (aI 0 (Out.res o)))) h
def fG : (Int) → Out := fun r => .ret [.d (.int .i64 r)] [] []
theorem acf : ∀ y z, fG y = fG z → y = z := fun y z h => congrArg (fun o => aL (avD (aI 0 (Out.res o)))) h
def dC : (Int) → Out := fun r => .ret [.d (.int .i64 r)] [] []
theorem uE : ∀ y z, dC y = dC z → y = z := fun y z h => congrArg (fun o => aL (avD (aI 0 (Out.res o)))) h
def gN : (Bool) → Out := fun r => .ret [.d (.bool r)] [] []
theorem adv : ∀ y z, gN y = gN z → y = z := fun y z h => congrArg (fun o => bB (avD (aI 0 (Out.res o)))) h
def hR : (Int) → Out := fun r => .ret [.d (.int .i64 r)] [] []
theorem aej : ∀ y z, hR y = hR z → y = z := fun y z h => congrArg (fun o => aL (avD (aI 0 (Out.res o)))) h
def fT : (Int) → Out := fun r => .ret [.d (.int .i64 r)] [] []
theorem adg : ∀ y z, fT y = fT z → y = z := fun y z h => congrArg (fun o => aL (avD (aI 0 (Out.res o)))) h
def eJ : (Int) → Out := fun r => .ret [.d (.int .i64 r)] [] []
theorem acq : ∀ y z, eJ y = eJ z → y = z := fun y z h => congrArg (fun o => aL (avD (aI 0 (Out.res o)))) h
def g4 : (Int) → Out := fun r => .ret [.d (.int .i64 r)] [] []
theorem ab3 : ∀ y z, g4 y = g4 z → y = z := fun y z h => congrArg (fun o => aL (avD (aI 0 (Out.res o)))) h
def dI : (Bool) → Out := fun r => .ret [.d (.bool r)] [] []
theorem y0 : ∀ y z, dI y = dI z → y = z := fun y z h => congrArg (fun o => bB (avD (aI 0 (Out.res o)))) h
def iF : (Bool) → Out := fun r => .ret [.d (.bool r)] [] []
theorem ac5 : ∀ y z, iF y = iF z → y = z := fun y z h => congrArg (fun o => bB (avD (aI 0 (Out.res o)))) h
def gX : (Int) → Out := fun r => .ret [.d (.int .i64 r)] [] []
theorem acs : ∀ y z, gX y = gX z → y = z := fun y z h => congrArg (fun o => aL (avD (aI 0 (Out.res o)))) h
def eK : (Int) → Out := fun r => .ret [.d (.int .i64 r)] [] []
theorem abS : ∀ y z, eK y = eK z → y = z := fun y z h => congrArg (fun o => aL (avD (aI 0 (Out.res o)))) h
def hI : (Int) → Out := fun r => .ret [.d (.int .i64 r)] [] []
theorem abQ : ∀ y z, hI y = hI z → y = z := fun y z h => congrArg (fun o => aL (avD (aI 0 (Out.res o)))) h
def o0 : (Bool) → Out := fun r => .ret [.d (.bool r)] [] []
def good : FuncId → Out → Prop := fun f o => match f with | 138 => ∃ x, bP x = o | 80 => ∃ x, cV x = o | 81 => ∃ x, k9 x = o | 31 => ∃ x, lZ x = o | 163 => ∃ x, cZ x = o | 179 => ∃ x, eY x = o | 159 => ∃ x, g7 x = o | 193 => ∃ x, eU x = o | 189 => ∃ x, eD x = o | 180 => ∃ x, iY x = o | 160 => ∃ x, l8 x = o | 139 => ∃ x, dD x = o | 161 => ∃ x, fM x = o | 199 => ∃ x, gI x = o | 198 => ∃ x, iJ x = o | 190 => ∃ x, c9 x = o | 181 => ∃ x, kF x = o | 162 => ∃ x, lJ x = o | 126 => ∃ x, dX x = o | 127 => ∃ x, eA x = o | 124 => ∃ x, lH x = o | 125 => ∃ x, gC x = o | 66 => ∃ x, eP x = o | 164 => ∃ x, eV x = o | 130 => ∃ x, iW x = o | 129 => ∃ x, jK x = o | 128 => ∃ x, bH x = o | 67 => ∃ x, lK x = o | 103 => ∃ x, cN x = o | 104 => ∃ x, bO x = o | 50 => ∃ x, bU x = o | 68 => ∃ x, cJ x = o | 26 => ∃ x, eE x = o | 51 => ∃ x, dF x = o | 106 => ∃ x, iS x = o | 105 => ∃ x, lE x = o | 52 => ∃ x, jF x = o | 15 => ∃ x, iQ x = o | 113 => ∃ x, jC x = o | 156 => ∃ x, iO x = o | 169 => ∃ x, kA x = o | 170 => ∃ x, nC x = o | 184 => ∃ x, iT x = o | 171 => ∃ x, iL x = o | 141 => ∃ x, c8 x = o | 177 => ∃ x, nI x = o | 191 => ∃ x, jR x = o | 185 => ∃ x, kH x = o | 186 => ∃ x, gZ x = o | 175 => ∃ x, bI x = o | 178 => ∃ x, dP x = o | 157 => ∃ x, lB x = o | 153 => ∃ x, dE x = o | 110 => ∃ x, dA x = o | 147 => ∃ x, eO x = o | 114 => ∃ x, hZ x = o | 61 => ∃ x, dS x = o | 34 => ∃ x, lI x = o | 152 => ∃ x, iZ x = o | 151 => ∃ x, bL x = o | 109 => ∃ x, gJ x = o | 176 => ∃ x, dQ x = o | 154 => ∃ x, nG x = o | 155 => ∃ x, cA x = o | 111 => ∃ x, iX x = o | 112 => ∃ x, fB x = o | 60 => ∃ x, e9 x = o | 19 => ∃ x, jX x = o | 65 => ∃ x, eF x = o | 123 => ∃ x, bJ x = o | 64 => ∃ x, bG x = o | 23 => ∃ x, iV x = o | 91 => ∃ x, gP x = o | 36 => ∃ x, jM x = o | 24 => ∃ x, jA x = o | 14 => ∃ x, fH x = o | 140 => ∃ x, kZ x = o | 83 => ∃ x, eG x = o | 84 => ∃ x, dN x = o | 142 => ∃ x, kB x = o | 172 => ∃ x, n6 x = o | 143 => ∃ x, eR x = o | 85 => ∃ x, fP x = o | 86 => ∃ x, iI x = o | 144 => ∃ x, iC x = o | 87 => ∃ x, nH x = o | 33 => ∃ x, kK x = o | 100 => ∃ x, gY x = o | 101 => ∃ x, g5 x = o | 48 => ∃ x, cI x = o | 94 => ∃ x, jP x = o | 41 => ∃ x, eQ x = o | 168 => ∃ x, dL x = o | 99 => ∃ x, cY x = o | 150 => ∃ x, cO x = o | 98 => ∃ x, dB x = o | 167 => ∃ x, cF x = o | 166 => ∃ x, cH x = o | 133 => ∃ x, gD x = o | 134 => ∃ x, g8 x = o | 135 => ∃ x, gE x = o | 69 => ∃ x, jB x = o | 42 => ∃ x, fV x = o | 47 => ∃ x, hH x = o | 102 => ∃ x, fC x = o | 49 => ∃ x, fJ x = o | 13 => ∃ x, bZ x = o | 43 => ∃ x, fG x = o | 95 => ∃ x, dC x = o | 148 => ∃ x, gN x = o | 115 => ∃ x, hR x = o | 96 => ∃ x, fT x = o | 44 => ∃ x, eJ x = o | 45 => ∃ x, g4 x = o | 149 => ∃ x, dI x = o | 97 => ∃ x, iF x = o | 46 => ∃ x, gX x = o | 40 => ∃ x, eK x = o | 12 => ∃ x, hI x = o | 8 => ∃ x, o0 x = o | _ => False
abbrev cT {R : Type} (g : FuncId) (out : R → Out) : Gm R := ags SE good g out
noncomputable abbrev gG : Fun := sR SE good
end Te
end PX
