import Derived.Test.YtojlmojebnlmdaaGreatDoorMod
import Derived.Test.YtojlmojebnlmdaaGreatDoorProg
set_option linter.unusedVariables false
set_option linter.unusedSimpArgs false
noncomputable section
namespace PX
open Go
open Md
namespace Te
def tyL : List (Nat × TI) := [(3, ⟨[.int .i64], false, 8, [], 0⟩),
 (4, ⟨[.bool], false, 1, [], 0⟩),
 (5, ⟨[.int .u8], false, 1, [], 0⟩),
 (9, ⟨[.str], false, 16, [], 0⟩),
 (21, ⟨[.int .i32], false, 4, [], 0⟩),
 (22, ⟨[.sl [.str, .int .i64, .bool]], false, 24, [], 60⟩),
 (23, ⟨[.sl [.str, .str, .int .i64, .bool, .int .i64, .int .i64, .str, .int .i64, .sl [.str, .str]]], false, 24, [], 34⟩),
 (24, ⟨[.sl [.int .i64, .int .i64, .str, .str, .int .i64, .bool, .int .i64, .int .i64, .str, .int .i64, .sl [.str, .str]]], false, 24, [], 122⟩),
 (25, ⟨[.sl [.int .i64]], false, 24, [], 3⟩),
 (27, ⟨[.sl [.int .i64], .int .i64], true, 32, [(0, 25), (1, 3)], 0⟩),
 (29, ⟨[.int .i64, .sl [.int .i64, .int .i64, .str, .str, .int .i64, .bool, .int .i64, .int .i64, .str, .int .i64, .sl [.str, .str]], .sl [.int .i64], .int .i64], true, 64, [(0, 3), (1, 24), (2, 27)], 0⟩),
 (31, ⟨[.sl [.int .i64]], true, 24, [(0, 25)], 0⟩),
 (32, ⟨[.sl [.str, .str]], false, 24, [], 130⟩),
 (34, ⟨[.str, .str, .int .i64, .bool, .int .i64, .int .i64, .str, .int .i64, .sl [.str, .str]], true, 112, [(0, 9), (1, 9), (2, 3), (3, 4), (4, 3), (5, 3), (6, 9), (7, 3), (8, 32)], 0⟩),
 (36, ⟨[.bool, .int .i64, .str, .str, .int .i64, .bool, .int .i64, .int .i64, .str, .int .i64, .sl [.str, .str]], true, 128, [(0, 4), (1, 3), (2, 34)], 0⟩),
 (38, ⟨[.str, .str, .bool, .int .i64, .int .i64, .int .i64, .int .i64, .sl [.str, .int .i64, .bool], .sl [.str, .str, .int .i64, .bool, .int .i64, .int .i64, .str, .int .i64, .sl [.str, .str]], .int .i64, .sl [.int .i64, .int .i64, .str, .str, .int .i64, .bool, .int .i64, .int .i64, .str, .int .i64, .sl [.str, .str]], .sl [.int .i64], .int .i64, .sl [.int .i64], .bool, .int .i64, .str, .str, .int .i64, .bool, .int .i64, .int .i64, .str, .int .i64, .sl [.str, .str]], true, 336, [(0, 9), (1, 9), (2, 4), (3, 3), (4, 3), (5, 3), (6, 3), (7, 22), (8, 23), (9, 29), (13, 31), (14, 36)], 0⟩),
 (39, ⟨[.int .i64], false, 8, [], 0⟩),
 (47, ⟨[.sl [.str]], false, 24, [], 9⟩),
 (49, ⟨[.int .i64, .int .i64, .bool, .str, .str, .int .i64, .bool, .int .i64, .int .i64, .str, .int .i64, .sl [.str, .str], .str, .str, .bool, .int .i64, .int .i64, .int .i64, .bool, .int .i64, .str, .str, .int .i64, .bool, .int .i64, .int .i64, .str, .int .i64, .sl [.str, .str], .bool, .int .i64, .sl [.str, .int .i64, .bool], .sl [.str], .sl [.int .i64]], true, 416, [(0, 3), (1, 3), (2, 4), (3, 34), (12, 9), (13, 9), (14, 4), (15, 3), (16, 3), (17, 3), (18, 36), (29, 4), (30, 3), (31, 22), (32, 47), (33, 25)], 0⟩),
 (51, ⟨[.sl [.int .i64, .int .i64, .bool, .str, .str, .int .i64, .bool, .int .i64, .int .i64, .str, .int .i64, .sl [.str, .str], .str, .str, .bool, .int .i64, .int .i64, .int .i64, .bool, .int .i64, .str, .str, .int .i64, .bool, .int .i64, .int .i64, .str, .int .i64, .sl [.str, .str], .bool, .int .i64, .sl [.str, .int .i64, .bool], .sl [.str], .sl [.int .i64]]], false, 24, [], 49⟩),
 (60, ⟨[.str, .int .i64, .bool], true, 32, [(0, 9), (1, 3), (2, 4)], 0⟩),
 (77, ⟨[.int .u64], false, 8, [], 0⟩),
 (87, ⟨[.sl [.int .i64]], false, 24, [], 39⟩),
 (103, ⟨[.fn], false, 8, [], 0⟩),
 (122, ⟨[.int .i64, .int .i64, .str, .str, .int .i64, .bool, .int .i64, .int .i64, .str, .int .i64, .sl [.str, .str]], true, 128, [(0, 3), (1, 3), (2, 34)], 0⟩),
 (130, ⟨[.str, .str], true, 32, [(0, 9), (1, 9)], 0⟩),
 (147, ⟨[.fn], false, 8, [], 0⟩),
 (157, ⟨[.fn], false, 8, [], 0⟩)]
def fnL : List (Nat × Func) := [(100, Go.Proofs.Tryz.f100), (101, Go.Proofs.Tryz.f101), (48, Go.Proofs.Tryz.f48), (94, Go.Proofs.Tryz.f94), (41, Go.Proofs.Tryz.f41), (168, Go.Proofs.Tryz.f168), (99, Go.Proofs.Tryz.f99), (150, Go.Proofs.Tryz.f150), (98, Go.Proofs.Tryz.f98), (167, Go.Proofs.Tryz.f167), (166, Go.Proofs.Tryz.f166), (133, Go.Proofs.Tryz.f133), (134, Go.Proofs.Tryz.f134), (135, Go.Proofs.Tryz.f135), (69, Go.Proofs.Tryz.f69), (42, Go.Proofs.Tryz.f42), (47, Go.Proofs.Tryz.f47), (102, Go.Proofs.Tryz.f102), (49, Go.Proofs.Tryz.f49), (13, Go.Proofs.Tryz.f13), (43, Go.Proofs.Tryz.f43), (95, Go.Proofs.Tryz.f95), (148, Go.Proofs.Tryz.f148), (115, Go.Proofs.Tryz.f115), (96, Go.Proofs.Tryz.f96), (44, Go.Proofs.Tryz.f44), (45, Go.Proofs.Tryz.f45), (149, Go.Proofs.Tryz.f149), (97, Go.Proofs.Tryz.f97), (46, Go.Proofs.Tryz.f46), (40, Go.Proofs.Tryz.f40), (12, Go.Proofs.Tryz.f12), (22, Go.Proofs.Tryz.f22), (18, Go.Proofs.Tryz.f18), (138, Go.Proofs.Tryz.f138), (80, Go.Proofs.Tryz.f80), (81, Go.Proofs.Tryz.f81), (31, Go.Proofs.Tryz.f31), (163, Go.Proofs.Tryz.f163), (179, Go.Proofs.Tryz.f179), (159, Go.Proofs.Tryz.f159), (193, Go.Proofs.Tryz.f193), (189, Go.Proofs.Tryz.f189), (180, Go.Proofs.Tryz.f180), (160, Go.Proofs.Tryz.f160), (139, Go.Proofs.Tryz.f139), (161, Go.Proofs.Tryz.f161), (199, Go.Proofs.Tryz.f199), (198, Go.Proofs.Tryz.f198), (190, Go.Proofs.Tryz.f190), (181, Go.Proofs.Tryz.f181), (162, Go.Proofs.Tryz.f162), (126, Go.Proofs.Tryz.f126), (127, Go.Proofs.Tryz.f127), (124, Go.Proofs.Tryz.f124), (125, Go.Proofs.Tryz.f125), (66, Go.Proofs.Tryz.f66), (164, Go.Proofs.Tryz.f164), (130, Go.Proofs.Tryz.f130), (129, Go.Proofs.Tryz.f129), (128, Go.Proofs.Tryz.f128), (67, Go.Proofs.Tryz.f67), (103, Go.Proofs.Tryz.f103), (104, Go.Proofs.Tryz.f104), (50, Go.Proofs.Tryz.f50), (68, Go.Proofs.Tryz.f68), (26, Go.Proofs.Tryz.f26), (51, Go.Proofs.Tryz.f51), (106, Go.Proofs.Tryz.f106), (105, Go.Proofs.Tryz.f105), (52, Go.Proofs.Tryz.f52), (15, Go.Proofs.Tryz.f15), (113, Go.Proofs.Tryz.f113), (156, Go.Proofs.Tryz.f156), (169, Go.Proofs.Tryz.f169), (170, Go.Proofs.Tryz.f170), (184, Go.Proofs.Tryz.f184), (171, Go.Proofs.Tryz.f171), (141, Go.Proofs.Tryz.f141), (177, Go.Proofs.Tryz.f177), (191, Go.Proofs.Tryz.f191), (185, Go.Proofs.Tryz.f185), (186, Go.Proofs.Tryz.f186), (175, Go.Proofs.Tryz.f175), (178, Go.Proofs.Tryz.f178), (157, Go.Proofs.Tryz.f157), (153, Go.Proofs.Tryz.f153), (110, Go.Proofs.Tryz.f110), (147, Go.Proofs.Tryz.f147), (114, Go.Proofs.Tryz.f114), (61, Go.Proofs.Tryz.f61), (34, Go.Proofs.Tryz.f34), (152, Go.Proofs.Tryz.f152), (151, Go.Proofs.Tryz.f151), (109, Go.Proofs.Tryz.f109), (176, Go.Proofs.Tryz.f176), (154, Go.Proofs.Tryz.f154), (155, Go.Proofs.Tryz.f155), (111, Go.Proofs.Tryz.f111), (112, Go.Proofs.Tryz.f112), (60, Go.Proofs.Tryz.f60), (19, Go.Proofs.Tryz.f19), (65, Go.Proofs.Tryz.f65), (123, Go.Proofs.Tryz.f123), (64, Go.Proofs.Tryz.f64), (23, Go.Proofs.Tryz.f23), (91, Go.Proofs.Tryz.f91), (36, Go.Proofs.Tryz.f36), (24, Go.Proofs.Tryz.f24), (14, Go.Proofs.Tryz.f14), (25, Go.Proofs.Tryz.f25), (5, Go.Proofs.Tryz.f5)]
def tmL : List (Nat × (List Sh × List (TypeId × List Sh))) := [(100, ([.bool], [])),
 (101, ([.bool], [])),
 (48, ([.bool], [])),
 (94, ([.bool], [])),
 (41, ([.int .i64], [])),
 (168, ([.bool], [])),
 (99, ([.bool], [])),
 (150, ([.row 0 [.str] 9 16], [])),
 (98, ([.bool], [])),
 (167, ([.bool], [])),
 (166, ([.str, .str, .bool], [])),
 (133, ([.bool], [])),
 (134, ([.bool], [])),
 (135, ([.bool], [])),
 (69, ([.int .i64], [])),
 (42, ([.int .i64], [])),
 (47, ([.bool], [])),
 (102, ([.bool], [])),
 (49, ([.int .i64], [])),
 (13, ([.int .i64], [])),
 (43, ([.int .i64], [])),
 (95, ([.int .i64], [])),
 (148, ([.bool], [])),
 (115, ([.int .i64], [])),
 (96, ([.int .i64], [])),
 (44, ([.int .i64], [])),
 (45, ([.int .i64], [])),
 (149, ([.bool], [])),
 (97, ([.bool], [])),
 (46, ([.int .i64], [])),
 (40, ([.int .i64], [])),
 (12, ([.int .i64], [])),
 (22, ([.bool], [])),
 (18, ([.bool], [])),
 (138, ([.row 0 aD.ks 130 32], [])),
 (80, ([.agg [.str, .str, .int .i64, .bool, .int .i64, .int .i64, .str, .int .i64, .row 0 aD.ks 130 32]], [])),
 (81, ([.agg [.int .i64, .row 0 aB.ks 122 128, .row 1 [.int .i64] 3 8, .int .i64]], [])),
 (31, ([.agg [.str, .str, .bool, .int .i64, .int .i64, .int .i64, .int .i64, .row 0 aF.ks 60 32, .row 1 aA.ks 34 112, .int .i64, .row 2 aB.ks 122 128, .row 3 [.int .i64] 3 8, .int .i64, .row 4 [.int .i64] 3 8, .bool, .int .i64, .str, .str, .int .i64, .bool, .int .i64, .int .i64, .str, .int .i64, .row 5 aD.ks 130 32]], [])),
 (163, ([.bool], [])),
 (179, ([.str, .bool], [])),
 (159, ([.str, .bool], [])),
 (193, ([.int .i64], [])),
 (189, ([.int .i64], [])),
 (180, ([.str, .str, .bool], [])),
 (160, ([.str, .str, .bool], [])),
 (139, ([.bool], [])),
 (161, ([.bool], [])),
 (199, ([.int .i64], [])),
 (198, ([.int .i64], [])),
 (190, ([.sl [.str]], [])),
 (181, ([.sl [.str]], [])),
 (162, ([.sl [.str]], [])),
 (126, ([.bool], [])),
 (127, ([.bool], [])),
 (124, ([.str, .str, .bool], [])),
 (125, ([.bool], [(60, aF.shs)])),
 (66, ([.int .i64], [])),
 (164, ([.int .i64], [])),
 (130, ([.int .i64], [])),
 (129, ([.int .i64], [])),
 (128, ([.int .i64, .bool], [])),
 (67, ([.int .i64, .bool], [])),
 (103, ([.row 0 aF.ks 60 32], [])),
 (104, ([.row 0 [.int .i64] 3 8], [])),
 (50, ([.agg [.str, .str, .bool, .int .i64, .int .i64, .int .i64, .int .i64, .row 0 aF.ks 60 32, .row 1 aA.ks 34 112, .int .i64, .row 2 aB.ks 122 128, .row 3 [.int .i64] 3 8, .int .i64, .row 4 [.int .i64] 3 8, .bool, .int .i64, .str, .str, .int .i64, .bool, .int .i64, .int .i64, .str, .int .i64, .row 5 aD.ks 130 32]], [])),
 (68, ([.row 0 aF.ks 60 32], [])),
 (26, ([.agg [.str, .str, .bool, .int .i64, .int .i64, .int .i64, .int .i64, .row 0 aF.ks 60 32, .row 1 aA.ks 34 112, .int .i64, .row 2 aB.ks 122 128, .row 3 [.int .i64] 3 8, .int .i64, .row 4 [.int .i64] 3 8, .bool, .int .i64, .str, .str, .int .i64, .bool, .int .i64, .int .i64, .str, .int .i64, .row 5 aD.ks 130 32], .bool, .int .i64], [])),
 (51, ([aC.sh], [])),
 (106, ([.agg [.str, .str, .int .i64, .bool, .int .i64, .int .i64, .str, .int .i64, .row 0 aD.ks 130 32]], [])),
 (105, ([.row 0 aA.ks 34 112], [])),
 (52, ([.row 0 aA.ks 34 112, .row 1 aA.ks 34 112, .bool], [])),
 (15, ([aC.sh, .bool], [])),
 (113, ([.bool], [])),
 (156, ([.int .i64], [])),
 (169, ([.bool], [])),
 (170, ([.bool], [])),
 (184, ([.bool], [])),
 (171, ([.int .i64], [])),
 (141, ([.int .i64], [])),
 (177, ([.int .i64], [])),
 (191, ([.bool], [])),
 (185, ([.bool], [])),
 (186, ([.bool], [])),
 (175, ([.int .i64, .bool], [])),
 (178, ([.row 0 [.int .i64] 3 8], [])),
 (157, ([.int .i64, .agg [.row 0 [.int .i64] 3 8, .int .i64], .int .i64], [])),
 (153, ([.agg [.str, .str, .int .i64, .bool, .int .i64, .int .i64, .str, .int .i64, .row 0 aD.ks 130 32]], [])),
 (110, ([.agg [.int .i64, .row 0 aB.ks 122 128, .row 1 [.int .i64] 3 8, .int .i64]], [])),
 (147, ([.agg [.int .i64, .int .i64, .bool, .str, .str, .int .i64, .bool, .int .i64, .int .i64, .str, .int .i64, .row 0 aD.ks 130 32, .str, .str, .bool, .int .i64, .int .i64, .int .i64, .bool, .int .i64, .str, .str, .int .i64, .bool, .int .i64, .int .i64, .str, .int .i64, .row 1 aD.ks 130 32, .bool, .int .i64, .row 2 aF.ks 60 32, .row 3 [.str] 9 16, .row 4 [.int .i64] 3 8]], [])),
 (114, ([.agg [.int .i64, .row 0 aB.ks 122 128, .row 1 [.int .i64] 3 8, .int .i64], .agg [.int .i64, .int .i64, .bool, .str, .str, .int .i64, .bool, .int .i64, .int .i64, .str, .int .i64, .row 2 aD.ks 130 32, .str, .str, .bool, .int .i64, .int .i64, .int .i64, .bool, .int .i64, .str, .str, .int .i64, .bool, .int .i64, .int .i64, .str, .int .i64, .row 3 aD.ks 130 32, .bool, .int .i64, .row 4 aF.ks 60 32, .row 5 [.str] 9 16, .row 6 [.int .i64] 3 8], .int .i64], [])),
 (61, ([aC.sh, .row 0 aE.ks 49 416], [])),
 (34, ([aC.sh, .row 0 aE.ks 49 416], [])),
 (152, ([.bool], [(3, [.int .i64])])),
 (151, ([.int .i64], [(3, [.int .i64])])),
 (109, ([.int .i64], [])),
 (176, ([.row 0 [.int .i64] 3 8], [])),
 (154, ([.agg [.row 0 [.int .i64] 3 8, .int .i64], .bool], [])),
 (155, ([.row 0 aB.ks 122 128], [])),
 (111, ([.agg [.int .i64, .row 0 aB.ks 122 128, .row 1 [.int .i64] 3 8, .int .i64]], [])),
 (112, ([.agg [.int .i64, .int .i64, .bool, .str, .str, .int .i64, .bool, .int .i64, .int .i64, .str, .int .i64, .row 0 aD.ks 130 32, .str, .str, .bool, .int .i64, .int .i64, .int .i64, .bool, .int .i64, .str, .str, .int .i64, .bool, .int .i64, .int .i64, .str, .int .i64, .row 1 aD.ks 130 32, .bool, .int .i64, .row 2 aF.ks 60 32, .row 3 [.str] 9 16, .row 4 [.int .i64] 3 8]], [])),
 (60, ([.agg [.int .i64, .row 0 aB.ks 122 128, .row 1 [.int .i64] 3 8, .int .i64], .row 2 aE.ks 49 416, .int .i64], [])),
 (19, ([aC.sh, .row 0 aE.ks 49 416, .int .i64], [])),
 (65, ([.bool], [])),
 (123, ([.int .i64], [])),
 (64, ([.row 0 aA.ks 34 112], [])),
 (23, ([aC.sh], [])),
 (91, ([.row 0 aE.ks 49 416], [])),
 (36, ([aC.sh, .row 0 aE.ks 49 416], [])),
 (24, ([.bool], [])),
 (14, ([.bool], [])),
 (25, ([.bool], [])),
 (5, ([.bool], []))]
def mvL : List (Nat × Bool) := [(68, true), (178, true), (61, true), (176, true), (155, true), (64, true)]
def naL : List (Nat × List (List (Option (List CK × TypeId × Nat)))) := [(68, [[some (aF.ks, 60, 32)], [], [some (aF.ks, 60, 32)]]), (178, [[some ([.int .i64], 3, 8)], [], [some ([.int .i64], 3, 8)]]), (61, [[], [], [some (aE.ks, 49, 416)]]), (176, [[some ([.int .i64], 3, 8)], [], []]), (155, [[some (aB.ks, 122, 128)], [], []]), (64, [[some (aA.ks, 34, 112)], []])]
def hlL : List (Nat × List (Nat × Hint)) := [(48, [(4, ⟨[(0, .str), (3, .int .i64)], [], []⟩)]),
 (99, [(2, ⟨[(0, .str), (1, .int .u8), (5, .int .i64)], [], []⟩)]),
 (150, [(4, ⟨[(0, .str), (3, .row 3003 [.str] 9 16), (4, .int .i64), (5, .int .i64)], [], []⟩)]),
 (167, [(5, ⟨[(3, .row 3003 [.str] 9 16), (4, .int .i64)], [], []⟩)]),
 (166, [(5, ⟨[(5, .str), (6, .int .i64)], [], []⟩)]),
 (42, [(4, ⟨[(0, .sl aF.ks), (3, .int .i64)], [], []⟩)]),
 (102, [(4, ⟨[(0, .str), (3, .int .i64)], [], []⟩)]),
 (49, [(4, ⟨[(0, .sl aD.ks), (3, .int .i64)], [], []⟩)]),
 (43, [(4, ⟨[(0, .sl aA.ks), (3, .int .i64)], [], []⟩)]),
 (95, [(4, ⟨[(1, .ptr 1000000000 0), (3, .int .i64)], [(27, aJ.shs)], []⟩)]),
 (148, [(2, ⟨[(1, .int .i64), (2, .ptr 1000000000 0), (5, .int .i64)], [(27, aJ.shs)], []⟩)]),
 (115, [(2, ⟨[(0, .sl aB.ks), (1, .int .i64), (5, .int .i64)], [], []⟩)]),
 (44, [(9, ⟨[(1, .ptr 1000000000 0), (4, .int .i64)], [(29, aG.shs)], []⟩)]),
 (149, [(4, ⟨[(0, .sl aD.ks), (1, .sl aD.ks), (5, .int .i64)], [], []⟩)]),
 (40, [(2, ⟨[(0, .sl [.int .i64]), (3, .int .i64)], [], []⟩)]),
 (139, [(4, ⟨[(15, .it 4000)], [], []⟩)]),
 (161, [(5, ⟨[(3, .int .i64), (15, .it 4000)], [], []⟩)]),
 (198, [(6, ⟨[(0, .str), (1, .str), (5, .int .i64)], [], []⟩)]),
 (190, [(11, ⟨[(0, .str), (1, .str), (2, .int .i64), (3, .int .i64), (9, .row 3009 [.str] 9 16), (10, .int .i64)], [], []⟩)]),
 (126, [(6, ⟨[(3, .sl [.str]), (4, .bool), (15, .sl [.str]), (16, .int .i64), (17, .int .i64)], [], []⟩), (9, ⟨[(3, .sl [.str]), (4, .bool), (5, .int .i64), (6, .str), (15, .sl [.str]), (16, .int .i64), (17, .int .i64), (23, .it 4000)], [], []⟩)]),
 (128, [(3, ⟨[(0, .sl aF.ks), (1, .str), (2, .fn 129 [] []), (8, .int .i64), (9, .int .i64), (10, .int .i64)], [], []⟩)]),
 (50, [(4, ⟨[(1, .ptr 1000000000 0), (2, .ptr 1000000001 0), (3, .row 3003 aA.ks 34 112), (18, .sl aA.ks), (19, .int .i64), (20, .int .i64)], [(38, [.str, .str, .bool, .int .i64, .int .i64, .int .i64, .int .i64, .row 50007 aF.ks 60 32, .sl aA.ks, .int .i64, .sl aB.ks, .sl [.int .i64], .int .i64, .sl [.int .i64], .bool, .int .i64, .str, .str, .int .i64, .bool, .int .i64, .int .i64, .str, .int .i64, .sl aD.ks]), (38, aC.shs)], []⟩), (11, ⟨[(1, .ptr 1000000000 0), (2, .ptr 1000000001 0), (6, .row 3006 aB.ks 122 128), (39, .sl aB.ks), (40, .int .i64), (41, .int .i64)], [(38, [.str, .str, .bool, .int .i64, .int .i64, .int .i64, .int .i64, .row 50007 aF.ks 60 32, .row 50008 aA.ks 34 112, .int .i64, .sl aB.ks, .sl [.int .i64], .int .i64, .sl [.int .i64], .bool, .int .i64, .str, .str, .int .i64, .bool, .int .i64, .int .i64, .str, .int .i64, .sl aD.ks]), (38, aC.shs)], []⟩)]),
 (105, [(3, ⟨[(5, .row 3005 aA.ks 34 112), (13, .sl aA.ks), (14, .int .i64), (15, .int .i64)], [], []⟩)]),
 (169, [(4, ⟨[(9, .it 4000)], [], []⟩)]),
 (184, [(4, ⟨[(0, .str), (3, .int .i64)], [], []⟩)]),
 (171, [(4, ⟨[(0, .sl aD.ks), (8, .sl aD.ks), (9, .int .i64), (10, .int .i64)], [], []⟩)]),
 (175, [(3, ⟨[(0, .sl [.int .i64]), (1, .int .i64), (6, .int .i64), (7, .int .i64), (8, .int .i64)], [], []⟩)]),
 (157, [(5, ⟨[(1, .ptr 1000000000 0), (3, .ptr 1000000001 0), (5, .int .i64), (18, .int .i64), (19, .int .i64)], [(27, aJ.shs), (27, aJ.shs)], []⟩)]),
 (110, [(3, ⟨[(1, .ptr 1000000000 0), (2, .ptr 1000000001 0), (3, .row 3003 aB.ks 122 128), (12, .sl aB.ks), (13, .int .i64), (14, .int .i64)], [(29, aG.shs), (29, aG.shs)], []⟩)]),
 (61, [(1, ⟨[(1, .int .i64), (2, .row 3002 aE.ks 49 416), (3, .ptr 1000000000 0), (6, .ptr 1000000001 0)], [(38, aC.shs), (38, aC.shs)], []⟩)]),
 (151, [(2, ⟨[(0, .sl aB.ks), (1, .fn 152 [] [.ptr 2000000000 0]), (7, .int .i64), (8, .int .i64)], [], [(3, [.int .i64])]⟩)]),
 (123, [(2, ⟨[(0, .sl aA.ks), (1, .fn 65 [] []), (7, .int .i64), (8, .int .i64)], [], []⟩)]),
 (64, [(5, ⟨[(0, .row 3000 aA.ks 34 112), (1, .fn 65 [] []), (5, .int .i64), (6, .int .i64)], [], []⟩)]),
 (91, [(3, ⟨[(1, .ptr 1000000000 0), (3, .row 3003 aE.ks 49 416), (9, .int .i64), (10, .int .i64)], [(29, aG.shs)], []⟩)])]
def hrL : List (Nat × List (Nat × Hint)) := [(48, [(3, ⟨[(0, .str)], [], []⟩)]),
 (41, [(3, ⟨[(1, .ptr 1000000000 0)], [(38, aC.shs)], []⟩), (5, ⟨[(1, .ptr 1000000000 0)], [(38, aC.shs)], []⟩)]),
 (167, [(9, ⟨[(3, .row 3003 [.str] 9 16), (4, .int .i64)], [], []⟩)]),
 (166, [(7, ⟨[(5, .str), (6, .int .i64)], [], []⟩), (9, ⟨[(5, .str), (6, .int .i64)], [], []⟩)]),
 (102, [(3, ⟨[(0, .str)], [], []⟩)]),
 (13, [(7, ⟨[(1, .ptr 1000000000 0)], [(34, aA.shs)], []⟩), (9, ⟨[(1, .ptr 1000000000 0)], [(34, aA.shs)], []⟩), (11, ⟨[(1, .ptr 1000000000 0)], [(34, aA.shs)], []⟩)]),
 (96, [(4, ⟨[(5, .ptr 1000000000 0)], [(122, aB.shs)], []⟩)]),
 (44, [(3, ⟨[(1, .ptr 1000000000 0)], [(29, aG.shs)], []⟩)]),
 (139, [(3, ⟨[(0, .str)], [], []⟩), (7, ⟨[(3, .int .i64), (4, .int .i32), (5, .bool), (15, .it 4000)], [], []⟩)]),
 (161, [(3, ⟨[(0, .str)], [], []⟩)]),
 (190, [(7, ⟨[(0, .str), (1, .str), (2, .int .i64), (3, .int .i64)], [], []⟩), (17, ⟨[(0, .str), (9, .row 3009 [.str] 9 16), (10, .int .i64)], [], []⟩)]),
 (26, [(7, ⟨[(2, .ptr 1000000000 0), (3, .ptr 1000000001 0), (4, .ptr 1000000002 0), (8, .int .i64), (9, .bool)], [(38, aC.shs), (60, aF.shs), (38, aC.shs)], []⟩)]),
 (52, [(6, ⟨[(5, .ptr 1000000000 0), (11, .row 3011 aA.ks 34 112)], [(34, aA.shs)], []⟩)]),
 (15, [(4, ⟨[(2, .int .i64), (3, .int .i64), (4, .ptr 1000000000 0), (5, .ptr 1000000001 0), (8, .ptr 1000000002 0), (10, .ptr 1000000003 0)], [(38, aC.shs), (34, aA.shs), (38, aC.shs), (38, [.str, .str, .bool, .int .i64, .int .i64, .int .i64, .int .i64, .row 50307 aF.ks 60 32, .row 50308 aA.ks 34 112, .int .i64, .row 50310 aB.ks 122 128, .row 50311 [.int .i64] 3 8, .int .i64, .row 50313 [.int .i64] 3 8, .bool, .int .i64, .str, .str, .int .i64, .bool, .int .i64, .int .i64, .str, .int .i64, .row 50324 aD.ks 130 32])], []⟩)]),
 (184, [(3, ⟨[(0, .str)], [], []⟩)]),
 (60, [(5, ⟨[(2, .ptr 1000000000 0), (3, .ptr 1000000001 0), (4, .ptr 1000000002 0), (7, .int .i64), (8, .ptr 1000000003 0)], [(29, aG.shs), (49, aE.shs), (29, aG.shs), (122, aB.shs)], []⟩)]),
 (5, [(3, ⟨[(1, .int .i64), (2, .int .i64), (3, .ptr 1000000000 0)], [(38, aC.shs)], []⟩)])]
def eqL : List (Nat × List CK) := [(130, [.str, .str])]
def prL : List (Nat × Prim) := [(182, .cmpString), (201, .indexByte), (205, .countByte)]
def lbL : List (Nat × LibK) := [(68, .insert aF.ks 60 32), (178, .insert [.int .i64] 3 8), (176, .spec (af8 [.int .i64] 3 8)), (155, .spec (af8 aB.ks 122 128))]
def SE : Env := { fn := assoc fnL, ty := assoc tyL, tm := assoc tmL, mv := fun f => match assoc mvL f with | some b => b | none => false, eqt := assoc eqL, pv := fun _ => none, hl := fun f r => match assoc hlL f with | some l => assoc l r | none => none, hr := fun f r => match assoc hrL f with | some l => assoc l r | none => none, prim := assoc prL, lib := assoc lbL, na := fun f => match assoc naL f with | some l => l | none => [], cut := fun d t => (Nat.beq d 41 && Nat.beq t 23) }
def gY : (Bool) → Out := fun r => .ret [.d (.bool r)] [] []
theorem rZ : ∀ y z, gY y = gY z → y = z := fun y z h => congrArg (fun o => aY (avD (aI 0 (Out.res o)))) h
def gO : (Bool) → Out := fun r => .ret [.d (.bool r)] [] []
theorem aa7 : ∀ y z, gO y = gO z → y = z := fun y z h => congrArg (fun o => aY (avD (aI 0 (Out.res o)))) h
def cE : (Bool) → Out := fun r => .ret [.d (.bool r)] [] []
theorem l6 : ∀ y z, cE y = cE z → y = z := fun y z h => congrArg (fun o => aY (avD (aI 0 (Out.res o)))) h
def jK : (Bool) → Out := fun r => .ret [.d (.bool r)] [] []
theorem p8 : ∀ y z, jK y = jK z → y = z := fun y z h => congrArg (fun o => aY (avD (aI 0 (Out.res o)))) h
def eG : (Int) → Out := fun r => .ret [.d (.int .i64 r)] [] []
theorem ab0 : ∀ y z, eG y = eG z → y = z := fun y z h => congrArg (fun o => aL (avD (aI 0 (Out.res o)))) h
def dJ : (Bool) → Out := fun r => .ret [.d (.bool r)] [] []
theorem nS : ∀ y z, dJ y = dJ z → y = z := fun y z h => congrArg (fun o => aY (avD (aI 0 (Out.res o)))) h
def cU : (Bool) → Out := fun r => .ret [.d (.bool r)] [] []
theorem j7 : ∀ y z, cU y = cU z → y = z := fun y z h => congrArg (fun o => aY (avD (aI 0 (Out.res o)))) h
def cM : ((List Str)) → Out := fun r => .ret [.row 0] [] [⟨[.str], 9, 16, (List.map bF r)⟩]
theorem q0 : ∀ y z, cM y = cM z → y = z := fun y z h => map_inj xF (congrArg (fun o => bZ 0 (Out.rws o)) h)
def c9 : (Bool) → Out := fun r => .ret [.d (.bool r)] [] []
theorem sJ : ∀ y z, c9 y = c9 z → y = z := fun y z h => congrArg (fun o => aY (avD (aI 0 (Out.res o)))) h
def cC : (Bool) → Out := fun r => .ret [.d (.bool r)] [] []
theorem qY : ∀ y z, cC y = cC z → y = z := fun y z h => congrArg (fun o => aY (avD (aI 0 (Out.res o)))) h
def cD : (Str × Str × Bool) → Out := fun r => .ret [.d (.str r.1), .d (.str r.2.1), .d (.bool r.2.2)] [] []
theorem qW : ∀ y z, cD y = cD z → y = z := fun y z h => Prod.ext (congrArg (fun o => aV (avD (aI 0 (Out.res o)))) h) (Prod.ext (congrArg (fun o => aV (avD (aI 1 (Out.res o)))) h) (congrArg (fun o => aY (avD (aI 2 (Out.res o)))) h))
def fY : (Bool) → Out := fun r => .ret [.d (.bool r)] [] []
theorem aaq : ∀ y z, fY y = fY z → y = z := fun y z h => congrArg (fun o => aY (avD (aI 0 (Out.res o)))) h
def gX : (Bool) → Out := fun r => .ret [.d (.bool r)] [] []
theorem aaK : ∀ y z, gX y = gX z → y = z := fun y z h => congrArg (fun o => aY (avD (aI 0 (Out.res o)))) h
def fT : (Bool) → Out := fun r => .ret [.d (.bool r)] [] []
theorem aao : ∀ y z, fT y = fT z → y = z := fun y z h => congrArg (fun o => aY (avD (aI 0 (Out.res o)))) h
def iQ : (Int) → Out := fun r => .ret [.d (.int .i64 r)] [] []
theorem acv : ∀ y z, iQ y = iQ z → y = z := fun y z h => congrArg (fun o => aL (avD (aI 0 (Out.res o)))) h
def fJ : (Int) → Out := fun r => .ret [.d (.int .i64 r)] [] []
theorem ab3 : ∀ y z, fJ y = fJ z → y = z := fun y z h => congrArg (fun o => aL (avD (aI 0 (Out.res o)))) h
def gS : (Bool) → Out := fun r => .ret [.d (.bool r)] [] []
theorem abf : ∀ y z, gS y = gS z → y = z := fun y z h => congrArg (fun o => aY (avD (aI 0 (Out.res o)))) h
def eP : (Bool) → Out := fun r => .ret [.d (.bool r)] [] []
theorem acz : ∀ y z, eP y = eP z → y = z := fun y z h => congrArg (fun o => aY (avD (aI 0 (Out.res o)))) h
def eW : (Int) → Out := fun r => .ret [.d (.int .i64 r)] [] []
theorem aaM : ∀ y z, eW y = eW z → y = z := fun y z h => congrArg (fun o => aL (avD (aI 0 (Out.res o)))) h
def bV : (Int) → Out := fun r => .ret [.d (.int .i64 r)] [] []
theorem oK : ∀ y z, bV y = bV z → y = z := fun y z h => congrArg (fun o => aL (avD (aI 0 (Out.res o)))) h
def eY : (Int) → Out := fun r => .ret [.d (.int .i64 r)] [] []
theorem aa9 : ∀ y z, eY y = eY z → y = z := fun y z h => congrArg (fun o => aL (avD (aI 0 (Out.res o)))) h
def c8 : (Int) → Out := fun r => .ret [.d (.int .i64 r)] [] []
theorem sH : ∀ y z, c8 y = c8 z → y = z := fun y z h => congrArg (fun o => aL (avD (aI 0 (Out.res o)))) h
def gF : (Bool) → Out := fun r => .ret [.d (.bool r)] [] []
theorem acG : ∀ y z, gF y = gF z → y = z := fun y z h => congrArg (fun o => aY (avD (aI 0 (Out.res o)))) h
def g9 : (Int) → Out := fun r => .ret [.d (.int .i64 r)] [] []
theorem adl : ∀ y z, g9 y = g9 z → y = z := fun y z h => congrArg (fun o => aL (avD (aI 0 (Out.res o)))) h
def fH : (Int) → Out := fun r => .ret [.d (.int .i64 r)] [] []
theorem ab1 : ∀ y z, fH y = fH z → y = z := fun y z h => congrArg (fun o => aL (avD (aI 0 (Out.res o)))) h
def eC : (Int) → Out := fun r => .ret [.d (.int .i64 r)] [] []
theorem abn : ∀ y z, eC y = eC z → y = z := fun y z h => congrArg (fun o => aL (avD (aI 0 (Out.res o)))) h
def g4 : (Int) → Out := fun r => .ret [.d (.int .i64 r)] [] []
theorem aaC : ∀ y z, g4 y = g4 z → y = z := fun y z h => congrArg (fun o => aL (avD (aI 0 (Out.res o)))) h
def dG : (Bool) → Out := fun r => .ret [.d (.bool r)] [] []
theorem wN : ∀ y z, dG y = dG z → y = z := fun y z h => congrArg (fun o => aY (avD (aI 0 (Out.res o)))) h
def hX : (Bool) → Out := fun r => .ret [.d (.bool r)] [] []
theorem abw : ∀ y z, hX y = hX z → y = z := fun y z h => congrArg (fun o => aY (avD (aI 0 (Out.res o)))) h
def g6 : (Int) → Out := fun r => .ret [.d (.int .i64 r)] [] []
theorem aa1 : ∀ y z, g6 y = g6 z → y = z := fun y z h => congrArg (fun o => aL (avD (aI 0 (Out.res o)))) h
def dY : (Int) → Out := fun r => .ret [.d (.int .i64 r)] [] []
theorem aa2 : ∀ y z, dY y = dY z → y = z := fun y z h => congrArg (fun o => aL (avD (aI 0 (Out.res o)))) h
def gP : (Int) → Out := fun r => .ret [.d (.int .i64 r)] [] []
theorem aaU : ∀ y z, gP y = gP z → y = z := fun y z h => congrArg (fun o => aL (avD (aI 0 (Out.res o)))) h
def dD : (Bool) → Out := fun r => .ret [.d (.bool r)] [] []
theorem qO : ∀ y z, dD y = dD z → y = z := fun y z h => congrArg (fun o => aY (avD (aI 0 (Out.res o)))) h
def gV : (Bool) → Out := fun r => .ret [.d (.bool r)] [] []
theorem aaY : ∀ y z, gV y = gV z → y = z := fun y z h => congrArg (fun o => aY (avD (aI 0 (Out.res o)))) h
def bP : ((List aD)) → Out := fun r => .ret [.row 0] [] [⟨aD.ks, 130, 32, (List.map aD.enc r)⟩]
theorem kL : ∀ y z, bP y = bP z → y = z := fun y z h => map_inj aD.inj (congrArg (fun o => bZ 0 (Out.rws o)) h)
def cQ : (aA) → Out := fun r => .ret [.agg [.d (.str r.Topic), .d (.str r.Payload), .d (.int .i64 r.Level), .d (.bool r.Retain), .d (.int .i64 r.Priority), .d (.int .i64 r.Expires), .d (.str r.From), .d (.int .i64 r.Seq), .row 0]] [] [⟨aD.ks, 130, 32, (List.map aD.enc r.Props)⟩]
theorem jF : ∀ y z, cQ y = cQ z → y = z := fun y z h => aA.inj (congrArg (fun o => [avD (aI 0 (cellsOf (aI 0 (Out.res o)))), avD (aI 1 (cellsOf (aI 0 (Out.res o)))), avD (aI 2 (cellsOf (aI 0 (Out.res o)))), avD (aI 3 (cellsOf (aI 0 (Out.res o)))), avD (aI 4 (cellsOf (aI 0 (Out.res o)))), avD (aI 5 (cellsOf (aI 0 (Out.res o)))), avD (aI 6 (cellsOf (aI 0 (Out.res o)))), avD (aI 7 (cellsOf (aI 0 (Out.res o)))), D.sl aD.ks (bZ 0 (Out.rws o))]) h)
def kK : (aG) → Out := fun r => .ret [.agg [.d (.int .i64 r.Limit), .row 0, .row 1, .d (.int .i64 r.Pool.Last)]] [] [⟨aB.ks, 122, 128, (List.map aB.enc r.Items)⟩, ⟨[.int .i64], 3, 8, (List.map (encI .i64) r.Pool.Used)⟩]
theorem aeC : ∀ y z, kK y = kK z → y = z := fun y z h => aG.inj (congrArg (fun o => [avD (aI 0 (cellsOf (aI 0 (Out.res o)))), D.sl aB.ks (bZ 0 (Out.rws o)), D.sl [.int .i64] (bZ 1 (Out.rws o)), avD (aI 3 (cellsOf (aI 0 (Out.res o))))]) h)
def lA : (aC) → Out := fun r => .ret [.agg [.d (.str r.Client), .d (.str r.User), .d (.bool r.Online), .d (.int .i64 r.Conn), .d (.int .i64 r.Expiry), .d (.int .i64 r.Until), .d (.int .i64 r.Dropped), .row 0, .row 1, .d (.int .i64 r.Out.Limit), .row 2, .row 3, .d (.int .i64 r.Out.Pool.Last), .row 4, .d (.bool r.Will.Set), .d (.int .i64 r.Will.Delay), .d (.str r.Will.Message.Topic), .d (.str r.Will.Message.Payload), .d (.int .i64 r.Will.Message.Level), .d (.bool r.Will.Message.Retain), .d (.int .i64 r.Will.Message.Priority), .d (.int .i64 r.Will.Message.Expires), .d (.str r.Will.Message.From), .d (.int .i64 r.Will.Message.Seq), .row 5]] [] [⟨aF.ks, 60, 32, (List.map aF.enc r.Subs)⟩, ⟨aA.ks, 34, 112, (List.map aA.enc r.Queue)⟩, ⟨aB.ks, 122, 128, (List.map aB.enc r.Out.Items)⟩, ⟨[.int .i64], 3, 8, (List.map (encI .i64) r.Out.Pool.Used)⟩, ⟨[.int .i64], 3, 8, (List.map (encI .i64) r.In.IDs)⟩, ⟨aD.ks, 130, 32, (List.map aD.enc r.Will.Message.Props)⟩]
theorem aff : ∀ y z, lA y = lA z → y = z := fun y z h => aC.inj (congrArg (fun o => [avD (aI 0 (cellsOf (aI 0 (Out.res o)))), avD (aI 1 (cellsOf (aI 0 (Out.res o)))), avD (aI 2 (cellsOf (aI 0 (Out.res o)))), avD (aI 3 (cellsOf (aI 0 (Out.res o)))), avD (aI 4 (cellsOf (aI 0 (Out.res o)))), avD (aI 5 (cellsOf (aI 0 (Out.res o)))), avD (aI 6 (cellsOf (aI 0 (Out.res o)))), D.sl aF.ks (bZ 0 (Out.rws o)), D.sl aA.ks (bZ 1 (Out.rws o)), avD (aI 9 (cellsOf (aI 0 (Out.res o)))), D.sl aB.ks (bZ 2 (Out.rws o)), D.sl [.int .i64] (bZ 3 (Out.rws o)), avD (aI 12 (cellsOf (aI 0 (Out.res o)))), D.sl [.int .i64] (bZ 4 (Out.rws o)), avD (aI 14 (cellsOf (aI 0 (Out.res o)))), avD (aI 15 (cellsOf (aI 0 (Out.res o)))), avD (aI 16 (cellsOf (aI 0 (Out.res o)))), avD (aI 17 (cellsOf (aI 0 (Out.res o)))), avD (aI 18 (cellsOf (aI 0 (Out.res o)))), avD (aI 19 (cellsOf (aI 0 (Out.res o)))), avD (aI 20 (cellsOf (aI 0 (Out.res o)))), avD (aI 21 (cellsOf (aI 0 (Out.res o)))), avD (aI 22 (cellsOf (aI 0 (Out.res o)))), avD (aI 23 (cellsOf (aI 0 (Out.res o)))), D.sl aD.ks (bZ 5 (Out.rws o))]) h)
def cV : (Bool) → Out := fun r => .ret [.d (.bool r)] [] []
theorem pJ : ∀ y z, cV y = cV z → y = z := fun y z h => congrArg (fun o => aY (avD (aI 0 (Out.res o)))) h
def eN : (Str × Bool) → Out := fun r => .ret [.d (.str r.1), .d (.bool r.2)] [] []
theorem wU : ∀ y z, eN y = eN z → y = z := fun y z h => Prod.ext (congrArg (fun o => aV (avD (aI 0 (Out.res o)))) h) (congrArg (fun o => aY (avD (aI 1 (Out.res o)))) h)
def gT : (Str × Bool) → Out := fun r => .ret [.d (.str r.1), .d (.bool r.2)] [] []
theorem aaO : ∀ y z, gT y = gT z → y = z := fun y z h => Prod.ext (congrArg (fun o => aV (avD (aI 0 (Out.res o)))) h) (congrArg (fun o => aY (avD (aI 1 (Out.res o)))) h)
def eM : (Int) → Out := fun r => .ret [.d (.int .i64 r)] [] []
theorem wQ : ∀ y z, eM y = eM z → y = z := fun y z h => congrArg (fun o => aL (avD (aI 0 (Out.res o)))) h
def eD : (Int) → Out := fun r => .ret [.d (.int .i64 r)] [] []
theorem sD : ∀ y z, eD y = eD z → y = z := fun y z h => congrArg (fun o => aL (avD (aI 0 (Out.res o)))) h
def iS : (Str × Str × Bool) → Out := fun r => .ret [.d (.str r.1), .d (.str r.2.1), .d (.bool r.2.2)] [] []
theorem acA : ∀ y z, iS y = iS z → y = z := fun y z h => Prod.ext (congrArg (fun o => aV (avD (aI 0 (Out.res o)))) h) (Prod.ext (congrArg (fun o => aV (avD (aI 1 (Out.res o)))) h) (congrArg (fun o => aY (avD (aI 2 (Out.res o)))) h))
def kV : (Str × Str × Bool) → Out := fun r => .ret [.d (.str r.1), .d (.str r.2.1), .d (.bool r.2.2)] [] []
theorem afB : ∀ y z, kV y = kV z → y = z := fun y z h => Prod.ext (congrArg (fun o => aV (avD (aI 0 (Out.res o)))) h) (Prod.ext (congrArg (fun o => aV (avD (aI 1 (Out.res o)))) h) (congrArg (fun o => aY (avD (aI 2 (Out.res o)))) h))
def eF : (Bool) → Out := fun r => .ret [.d (.bool r)] [] []
theorem aa5 : ∀ y z, eF y = eF z → y = z := fun y z h => congrArg (fun o => aY (avD (aI 0 (Out.res o)))) h
def fC : (Bool) → Out := fun r => .ret [.d (.bool r)] [] []
theorem zL : ∀ y z, fC y = fC z → y = z := fun y z h => congrArg (fun o => aY (avD (aI 0 (Out.res o)))) h
def gA : (Int) → Out := fun r => .ret [.d (.int .i64 r)] [] []
theorem wG : ∀ y z, gA y = gA z → y = z := fun y z h => congrArg (fun o => aL (avD (aI 0 (Out.res o)))) h
def iF : (Int) → Out := fun r => .ret [.d (.int .i64 r)] [] []
theorem adW : ∀ y z, iF y = iF z → y = z := fun y z h => congrArg (fun o => aL (avD (aI 0 (Out.res o)))) h
def cX : ((List Str)) → Out := fun r => .ret [.d (.sl [.str] (List.map bF r))] [] []
theorem abE : ∀ y z, cX y = cX z → y = z := fun y z h => map_inj xF (congrArg (fun o => dSl (avD (aI 0 (Out.res o)))) h)
def j0 : ((List Str)) → Out := fun r => .ret [.d (.sl [.str] (List.map bF r))] [] []
theorem ad3 : ∀ y z, j0 y = j0 z → y = z := fun y z h => map_inj xF (congrArg (fun o => dSl (avD (aI 0 (Out.res o)))) h)
def kI : ((List Str)) → Out := fun r => .ret [.d (.sl [.str] (List.map bF r))] [] []
theorem aeD : ∀ y z, kI y = kI z → y = z := fun y z h => map_inj xF (congrArg (fun o => dSl (avD (aI 0 (Out.res o)))) h)
def dQ : (Bool) → Out := fun r => .ret [.d (.bool r)] [] []
theorem xG : ∀ y z, dQ y = dQ z → y = z := fun y z h => congrArg (fun o => aY (avD (aI 0 (Out.res o)))) h
def dV : (Bool) → Out := fun r => .ret [.d (.bool r)] [] []
theorem sG : ∀ y z, dV y = dV z → y = z := fun y z h => congrArg (fun o => aY (avD (aI 0 (Out.res o)))) h
def kD : (Str × Str × Bool) → Out := fun r => .ret [.d (.str r.1), .d (.str r.2.1), .d (.bool r.2.2)] [] []
theorem aeu : ∀ y z, kD y = kD z → y = z := fun y z h => Prod.ext (congrArg (fun o => aV (avD (aI 0 (Out.res o)))) h) (Prod.ext (congrArg (fun o => aV (avD (aI 1 (Out.res o)))) h) (congrArg (fun o => aY (avD (aI 2 (Out.res o)))) h))
def fW : (Bool × aF) → Out := fun r => .ret [.d (.bool r.1)] [⟨60, (aF.avs r.2)⟩] []
theorem aav : ∀ y z, fW y = fW z → y = z := fun y z h => Prod.ext (congrArg (fun o => aY (avD (aI 0 (Out.res o)))) h) (aF.inj (congrArg (fun o => List.map avD (akA 0 (Out.bxs o))) h))
def hZ : (Int) → Out := fun r => .ret [.d (.int .i64 r)] [] []
theorem acb : ∀ y z, hZ y = hZ z → y = z := fun y z h => congrArg (fun o => aL (avD (aI 0 (Out.res o)))) h
def eK : (Int) → Out := fun r => .ret [.d (.int .i64 r)] [] []
theorem wR : ∀ y z, eK y = eK z → y = z := fun y z h => congrArg (fun o => aL (avD (aI 0 (Out.res o)))) h
def iM : (Int) → Out := fun r => .ret [.d (.int .i64 r)] [] []
theorem acF : ∀ y z, iM y = iM z → y = z := fun y z h => congrArg (fun o => aL (avD (aI 0 (Out.res o)))) h
def jL : (Int) → Out := fun r => .ret [.d (.int .i64 r)] [] []
theorem vA : ∀ y z, jL y = jL z → y = z := fun y z h => congrArg (fun o => aL (avD (aI 0 (Out.res o)))) h
def bH : (Int × Bool) → Out := fun r => .ret [.d (.int .i64 r.1), .d (.bool r.2)] [] []
theorem kU : ∀ y z, bH y = bH z → y = z := fun y z h => Prod.ext (congrArg (fun o => aL (avD (aI 0 (Out.res o)))) h) (congrArg (fun o => aY (avD (aI 1 (Out.res o)))) h)
def kE : (Int × Bool) → Out := fun r => .ret [.d (.int .i64 r.1), .d (.bool r.2)] [] []
theorem aeS : ∀ y z, kE y = kE z → y = z := fun y z h => Prod.ext (congrArg (fun o => aL (avD (aI 0 (Out.res o)))) h) (congrArg (fun o => aY (avD (aI 1 (Out.res o)))) h)
def cK : ((List aF)) → Out := fun r => .ret [.row 0] [] [⟨aF.ks, 60, 32, (List.map aF.enc r)⟩]
theorem qM : ∀ y z, cK y = cK z → y = z := fun y z h => map_inj aF.inj (congrArg (fun o => bZ 0 (Out.rws o)) h)
def bN : ((List Int)) → Out := fun r => .ret [.row 0] [] [⟨[.int .i64], 3, 8, (List.map (encI .i64) r)⟩]
theorem fF : ∀ y z, bN y = bN z → y = z := fun y z h => map_inj (uH _) (congrArg (fun o => bZ 0 (Out.rws o)) h)
def bS : (aC) → Out := fun r => .ret [.agg [.d (.str r.Client), .d (.str r.User), .d (.bool r.Online), .d (.int .i64 r.Conn), .d (.int .i64 r.Expiry), .d (.int .i64 r.Until), .d (.int .i64 r.Dropped), .row 0, .row 1, .d (.int .i64 r.Out.Limit), .row 2, .row 3, .d (.int .i64 r.Out.Pool.Last), .row 4, .d (.bool r.Will.Set), .d (.int .i64 r.Will.Delay), .d (.str r.Will.Message.Topic), .d (.str r.Will.Message.Payload), .d (.int .i64 r.Will.Message.Level), .d (.bool r.Will.Message.Retain), .d (.int .i64 r.Will.Message.Priority), .d (.int .i64 r.Will.Message.Expires), .d (.str r.Will.Message.From), .d (.int .i64 r.Will.Message.Seq), .row 5]] [] [⟨aF.ks, 60, 32, (List.map aF.enc r.Subs)⟩, ⟨aA.ks, 34, 112, (List.map aA.enc r.Queue)⟩, ⟨aB.ks, 122, 128, (List.map aB.enc r.Out.Items)⟩, ⟨[.int .i64], 3, 8, (List.map (encI .i64) r.Out.Pool.Used)⟩, ⟨[.int .i64], 3, 8, (List.map (encI .i64) r.In.IDs)⟩, ⟨aD.ks, 130, 32, (List.map aD.enc r.Will.Message.Props)⟩]
theorem iD : ∀ y z, bS y = bS z → y = z := fun y z h => aC.inj (congrArg (fun o => [avD (aI 0 (cellsOf (aI 0 (Out.res o)))), avD (aI 1 (cellsOf (aI 0 (Out.res o)))), avD (aI 2 (cellsOf (aI 0 (Out.res o)))), avD (aI 3 (cellsOf (aI 0 (Out.res o)))), avD (aI 4 (cellsOf (aI 0 (Out.res o)))), avD (aI 5 (cellsOf (aI 0 (Out.res o)))), avD (aI 6 (cellsOf (aI 0 (Out.res o)))), D.sl aF.ks (bZ 0 (Out.rws o)), D.sl aA.ks (bZ 1 (Out.rws o)), avD (aI 9 (cellsOf (aI 0 (Out.res o)))), D.sl aB.ks (bZ 2 (Out.rws o)), D.sl [.int .i64] (bZ 3 (Out.rws o)), avD (aI 12 (cellsOf (aI 0 (Out.res o)))), D.sl [.int .i64] (bZ 4 (Out.rws o)), avD (aI 14 (cellsOf (aI 0 (Out.res o)))), avD (aI 15 (cellsOf (aI 0 (Out.res o)))), avD (aI 16 (cellsOf (aI 0 (Out.res o)))), avD (aI 17 (cellsOf (aI 0 (Out.res o)))), avD (aI 18 (cellsOf (aI 0 (Out.res o)))), avD (aI 19 (cellsOf (aI 0 (Out.res o)))), avD (aI 20 (cellsOf (aI 0 (Out.res o)))), avD (aI 21 (cellsOf (aI 0 (Out.res o)))), avD (aI 22 (cellsOf (aI 0 (Out.res o)))), avD (aI 23 (cellsOf (aI 0 (Out.res o)))), D.sl aD.ks (bZ 5 (Out.rws o))]) h)
def cH : ((List aF)) → Out := fun r => .ret [.row 0] [] [⟨aF.ks, 60, 32, (List.map aF.enc r)⟩]
theorem p7 : ∀ y z, cH y = cH z → y = z := fun y z h => map_inj aF.inj (congrArg (fun o => bZ 0 (Out.rws o)) h)
def dU : (aC × Bool × Int) → Out := fun r => .ret [.agg [.d (.str r.1.Client), .d (.str r.1.User), .d (.bool r.1.Online), .d (.int .i64 r.1.Conn), .d (.int .i64 r.1.Expiry), .d (.int .i64 r.1.Until), .d (.int .i64 r.1.Dropped), .row 0, .row 1, .d (.int .i64 r.1.Out.Limit), .row 2, .row 3, .d (.int .i64 r.1.Out.Pool.Last), .row 4, .d (.bool r.1.Will.Set), .d (.int .i64 r.1.Will.Delay), .d (.str r.1.Will.Message.Topic), .d (.str r.1.Will.Message.Payload), .d (.int .i64 r.1.Will.Message.Level), .d (.bool r.1.Will.Message.Retain), .d (.int .i64 r.1.Will.Message.Priority), .d (.int .i64 r.1.Will.Message.Expires), .d (.str r.1.Will.Message.From), .d (.int .i64 r.1.Will.Message.Seq), .row 5], .d (.bool r.2.1), .d (.int .i64 r.2.2)] [] [⟨aF.ks, 60, 32, (List.map aF.enc r.1.Subs)⟩, ⟨aA.ks, 34, 112, (List.map aA.enc r.1.Queue)⟩, ⟨aB.ks, 122, 128, (List.map aB.enc r.1.Out.Items)⟩, ⟨[.int .i64], 3, 8, (List.map (encI .i64) r.1.Out.Pool.Used)⟩, ⟨[.int .i64], 3, 8, (List.map (encI .i64) r.1.In.IDs)⟩, ⟨aD.ks, 130, 32, (List.map aD.enc r.1.Will.Message.Props)⟩]
theorem aaT : ∀ y z, dU y = dU z → y = z := fun y z h => Prod.ext (aC.inj (congrArg (fun o => [avD (aI 0 (cellsOf (aI 0 (Out.res o)))), avD (aI 1 (cellsOf (aI 0 (Out.res o)))), avD (aI 2 (cellsOf (aI 0 (Out.res o)))), avD (aI 3 (cellsOf (aI 0 (Out.res o)))), avD (aI 4 (cellsOf (aI 0 (Out.res o)))), avD (aI 5 (cellsOf (aI 0 (Out.res o)))), avD (aI 6 (cellsOf (aI 0 (Out.res o)))), D.sl aF.ks (bZ 0 (Out.rws o)), D.sl aA.ks (bZ 1 (Out.rws o)), avD (aI 9 (cellsOf (aI 0 (Out.res o)))), D.sl aB.ks (bZ 2 (Out.rws o)), D.sl [.int .i64] (bZ 3 (Out.rws o)), avD (aI 12 (cellsOf (aI 0 (Out.res o)))), D.sl [.int .i64] (bZ 4 (Out.rws o)), avD (aI 14 (cellsOf (aI 0 (Out.res o)))), avD (aI 15 (cellsOf (aI 0 (Out.res o)))), avD (aI 16 (cellsOf (aI 0 (Out.res o)))), avD (aI 17 (cellsOf (aI 0 (Out.res o)))), avD (aI 18 (cellsOf (aI 0 (Out.res o)))), avD (aI 19 (cellsOf (aI 0 (Out.res o)))), avD (aI 20 (cellsOf (aI 0 (Out.res o)))), avD (aI 21 (cellsOf (aI 0 (Out.res o)))), avD (aI 22 (cellsOf (aI 0 (Out.res o)))), avD (aI 23 (cellsOf (aI 0 (Out.res o)))), D.sl aD.ks (bZ 5 (Out.rws o))]) h)) (Prod.ext (congrArg (fun o => aY (avD (aI 1 (Out.res o)))) h) (congrArg (fun o => aL (avD (aI 2 (Out.res o)))) h))
def dB : (aC) → Out := fun r => .ret [aC.av r] [] []
theorem mU : ∀ y z, dB y = dB z → y = z := fun y z h => aC.inj (congrArg (fun o => List.map avD (cellsOf (aI 0 (Out.res o)))) h)
def iJ : (aA) → Out := fun r => .ret [.agg [.d (.str r.Topic), .d (.str r.Payload), .d (.int .i64 r.Level), .d (.bool r.Retain), .d (.int .i64 r.Priority), .d (.int .i64 r.Expires), .d (.str r.From), .d (.int .i64 r.Seq), .row 0]] [] [⟨aD.ks, 130, 32, (List.map aD.enc r.Props)⟩]
theorem nH : ∀ y z, iJ y = iJ z → y = z := fun y z h => aA.inj (congrArg (fun o => [avD (aI 0 (cellsOf (aI 0 (Out.res o)))), avD (aI 1 (cellsOf (aI 0 (Out.res o)))), avD (aI 2 (cellsOf (aI 0 (Out.res o)))), avD (aI 3 (cellsOf (aI 0 (Out.res o)))), avD (aI 4 (cellsOf (aI 0 (Out.res o)))), avD (aI 5 (cellsOf (aI 0 (Out.res o)))), avD (aI 6 (cellsOf (aI 0 (Out.res o)))), avD (aI 7 (cellsOf (aI 0 (Out.res o)))), D.sl aD.ks (bZ 0 (Out.rws o))]) h)
def kG : ((List aA)) → Out := fun r => .ret [.row 0] [] [⟨aA.ks, 34, 112, (List.map aA.enc r)⟩]
theorem aga : ∀ y z, kG y = kG z → y = z := fun y z h => map_inj aA.inj (congrArg (fun o => bZ 0 (Out.rws o)) h)
def iU : ((List aA) × (List aA) × Bool) → Out := fun r => .ret [.row 0, .row 1, .d (.bool r.2.2)] [] [⟨aA.ks, 34, 112, (List.map aA.enc r.1)⟩, ⟨aA.ks, 34, 112, (List.map aA.enc r.2.1)⟩]
theorem ahr : ∀ y z, iU y = iU z → y = z := fun y z h => Prod.ext (map_inj aA.inj (congrArg (fun o => bZ 0 (Out.rws o)) h)) (Prod.ext (map_inj aA.inj (congrArg (fun o => bZ 1 (Out.rws o)) h)) (congrArg (fun o => aY (avD (aI 2 (Out.res o)))) h))
def iH : (aC × Bool) → Out := fun r => .ret [aC.av r.1, .d (.bool r.2)] [] []
theorem wJ : ∀ y z, iH y = iH z → y = z := fun y z h => Prod.ext (aC.inj (congrArg (fun o => List.map avD (cellsOf (aI 0 (Out.res o)))) h)) (congrArg (fun o => aY (avD (aI 1 (Out.res o)))) h)
def iL : (Bool) → Out := fun r => .ret [.d (.bool r)] [] []
theorem acw : ∀ y z, iL y = iL z → y = z := fun y z h => congrArg (fun o => aY (avD (aI 0 (Out.res o)))) h
def iB : (Int) → Out := fun r => .ret [.d (.int .i64 r)] [] []
theorem adY : ∀ y z, iB y = iB z → y = z := fun y z h => congrArg (fun o => aL (avD (aI 0 (Out.res o)))) h
def jR : (Bool) → Out := fun r => .ret [.d (.bool r)] [] []
theorem afT : ∀ y z, jR y = jR z → y = z := fun y z h => congrArg (fun o => aY (avD (aI 0 (Out.res o)))) h
def mE : (Bool) → Out := fun r => .ret [.d (.bool r)] [] []
theorem n7 : ∀ y z, mE y = mE z → y = z := fun y z h => congrArg (fun o => aY (avD (aI 0 (Out.res o)))) h
def iI : (Bool) → Out := fun r => .ret [.d (.bool r)] [] []
theorem afr : ∀ y z, iI y = iI z → y = z := fun y z h => congrArg (fun o => aY (avD (aI 0 (Out.res o)))) h
def iG : (Int) → Out := fun r => .ret [.d (.int .i64 r)] [] []
theorem wL : ∀ y z, iG y = iG z → y = z := fun y z h => congrArg (fun o => aL (avD (aI 0 (Out.res o)))) h
def jV : (Int) → Out := fun r => .ret [.d (.int .i64 r)] [] []
theorem adT : ∀ y z, jV y = jV z → y = z := fun y z h => congrArg (fun o => aL (avD (aI 0 (Out.res o)))) h
def mD : (Int) → Out := fun r => .ret [.d (.int .i64 r)] [] []
theorem agd : ∀ y z, mD y = mD z → y = z := fun y z h => congrArg (fun o => aL (avD (aI 0 (Out.res o)))) h
def jG : (Bool) → Out := fun r => .ret [.d (.bool r)] [] []
theorem vF : ∀ y z, jG y = jG z → y = z := fun y z h => congrArg (fun o => aY (avD (aI 0 (Out.res o)))) h
def jX : (Bool) → Out := fun r => .ret [.d (.bool r)] [] []
theorem adZ : ∀ y z, jX y = jX z → y = z := fun y z h => congrArg (fun o => aY (avD (aI 0 (Out.res o)))) h
def gU : (Bool) → Out := fun r => .ret [.d (.bool r)] [] []
theorem rV : ∀ y z, gU y = gU z → y = z := fun y z h => congrArg (fun o => aY (avD (aI 0 (Out.res o)))) h
def bO : (Int × Bool) → Out := fun r => .ret [.d (.int .i64 r.1), .d (.bool r.2)] [] []
theorem lN : ∀ y z, bO y = bO z → y = z := fun y z h => Prod.ext (congrArg (fun o => aL (avD (aI 0 (Out.res o)))) h) (congrArg (fun o => aY (avD (aI 1 (Out.res o)))) h)
def dK : ((List Int)) → Out := fun r => .ret [.row 0] [] [⟨[.int .i64], 3, 8, (List.map (encI .i64) r)⟩]
theorem tT : ∀ y z, dK y = dK z → y = z := fun y z h => map_inj (uH _) (congrArg (fun o => bZ 0 (Out.rws o)) h)
def kC : (Int × aJ × Int) → Out := fun r => .ret [.d (.int .i64 r.1), .agg [.row 0, .d (.int .i64 r.2.1.Last)], .d (.int .i64 r.2.2)] [] [⟨[.int .i64], 3, 8, (List.map (encI .i64) r.2.1.Used)⟩]
theorem af4 : ∀ y z, kC y = kC z → y = z := fun y z h => Prod.ext (congrArg (fun o => aL (avD (aI 0 (Out.res o)))) h) (Prod.ext (aJ.inj (congrArg (fun o => [D.sl [.int .i64] (bZ 0 (Out.rws o)), avD (aI 1 (cellsOf (aI 1 (Out.res o))))]) h)) (congrArg (fun o => aL (avD (aI 2 (Out.res o)))) h))
def dA : (aA) → Out := fun r => .ret [.agg [.d (.str r.Topic), .d (.str r.Payload), .d (.int .i64 r.Level), .d (.bool r.Retain), .d (.int .i64 r.Priority), .d (.int .i64 r.Expires), .d (.str r.From), .d (.int .i64 r.Seq), .row 0]] [] [⟨aD.ks, 130, 32, (List.map aD.enc r.Props)⟩]
theorem pD : ∀ y z, dA y = dA z → y = z := fun y z h => aA.inj (congrArg (fun o => [avD (aI 0 (cellsOf (aI 0 (Out.res o)))), avD (aI 1 (cellsOf (aI 0 (Out.res o)))), avD (aI 2 (cellsOf (aI 0 (Out.res o)))), avD (aI 3 (cellsOf (aI 0 (Out.res o)))), avD (aI 4 (cellsOf (aI 0 (Out.res o)))), avD (aI 5 (cellsOf (aI 0 (Out.res o)))), avD (aI 6 (cellsOf (aI 0 (Out.res o)))), avD (aI 7 (cellsOf (aI 0 (Out.res o)))), D.sl aD.ks (bZ 0 (Out.rws o))]) h)
def c7 : (aG) → Out := fun r => .ret [.agg [.d (.int .i64 r.Limit), .row 0, .row 1, .d (.int .i64 r.Pool.Last)]] [] [⟨aB.ks, 122, 128, (List.map aB.enc r.Items)⟩, ⟨[.int .i64], 3, 8, (List.map (encI .i64) r.Pool.Used)⟩]
theorem jB : ∀ y z, c7 y = c7 z → y = z := fun y z h => aG.inj (congrArg (fun o => [avD (aI 0 (cellsOf (aI 0 (Out.res o)))), D.sl aB.ks (bZ 0 (Out.rws o)), D.sl [.int .i64] (bZ 1 (Out.rws o)), avD (aI 3 (cellsOf (aI 0 (Out.res o))))]) h)
def eI : (aE) → Out := fun r => .ret [.agg [.d (.int .i64 r.Kind), .d (.int .i64 r.ID), .d (.bool r.Dup), .d (.str r.Message.Topic), .d (.str r.Message.Payload), .d (.int .i64 r.Message.Level), .d (.bool r.Message.Retain), .d (.int .i64 r.Message.Priority), .d (.int .i64 r.Message.Expires), .d (.str r.Message.From), .d (.int .i64 r.Message.Seq), .row 0, .d (.str r.Client), .d (.str r.User), .d (.bool r.Clean), .d (.int .i64 r.Keep), .d (.int .i64 r.Expiry), .d (.int .i64 r.Window), .d (.bool r.Will.Set), .d (.int .i64 r.Will.Delay), .d (.str r.Will.Message.Topic), .d (.str r.Will.Message.Payload), .d (.int .i64 r.Will.Message.Level), .d (.bool r.Will.Message.Retain), .d (.int .i64 r.Will.Message.Priority), .d (.int .i64 r.Will.Message.Expires), .d (.str r.Will.Message.From), .d (.int .i64 r.Will.Message.Seq), .row 1, .d (.bool r.Present), .d (.int .i64 r.Code), .row 2, .row 3, .row 4]] [] [⟨aD.ks, 130, 32, (List.map aD.enc r.Message.Props)⟩, ⟨aD.ks, 130, 32, (List.map aD.enc r.Will.Message.Props)⟩, ⟨aF.ks, 60, 32, (List.map aF.enc r.Subs)⟩, ⟨[.str], 9, 16, (List.map bF r.Filters)⟩, ⟨[.int .i64], 3, 8, (List.map (encI .i64) r.Codes)⟩]
theorem tK : ∀ y z, eI y = eI z → y = z := fun y z h => aE.inj (congrArg (fun o => [avD (aI 0 (cellsOf (aI 0 (Out.res o)))), avD (aI 1 (cellsOf (aI 0 (Out.res o)))), avD (aI 2 (cellsOf (aI 0 (Out.res o)))), avD (aI 3 (cellsOf (aI 0 (Out.res o)))), avD (aI 4 (cellsOf (aI 0 (Out.res o)))), avD (aI 5 (cellsOf (aI 0 (Out.res o)))), avD (aI 6 (cellsOf (aI 0 (Out.res o)))), avD (aI 7 (cellsOf (aI 0 (Out.res o)))), avD (aI 8 (cellsOf (aI 0 (Out.res o)))), avD (aI 9 (cellsOf (aI 0 (Out.res o)))), avD (aI 10 (cellsOf (aI 0 (Out.res o)))), D.sl aD.ks (bZ 0 (Out.rws o)), avD (aI 12 (cellsOf (aI 0 (Out.res o)))), avD (aI 13 (cellsOf (aI 0 (Out.res o)))), avD (aI 14 (cellsOf (aI 0 (Out.res o)))), avD (aI 15 (cellsOf (aI 0 (Out.res o)))), avD (aI 16 (cellsOf (aI 0 (Out.res o)))), avD (aI 17 (cellsOf (aI 0 (Out.res o)))), avD (aI 18 (cellsOf (aI 0 (Out.res o)))), avD (aI 19 (cellsOf (aI 0 (Out.res o)))), avD (aI 20 (cellsOf (aI 0 (Out.res o)))), avD (aI 21 (cellsOf (aI 0 (Out.res o)))), avD (aI 22 (cellsOf (aI 0 (Out.res o)))), avD (aI 23 (cellsOf (aI 0 (Out.res o)))), avD (aI 24 (cellsOf (aI 0 (Out.res o)))), avD (aI 25 (cellsOf (aI 0 (Out.res o)))), avD (aI 26 (cellsOf (aI 0 (Out.res o)))), avD (aI 27 (cellsOf (aI 0 (Out.res o)))), D.sl aD.ks (bZ 1 (Out.rws o)), avD (aI 29 (cellsOf (aI 0 (Out.res o)))), avD (aI 30 (cellsOf (aI 0 (Out.res o)))), D.sl aF.ks (bZ 2 (Out.rws o)), D.sl [.str] (bZ 3 (Out.rws o)), D.sl [.int .i64] (bZ 4 (Out.rws o))]) h)
def hI : (aG × aE × Int) → Out := fun r => .ret [.agg [.d (.int .i64 r.1.Limit), .row 0, .row 1, .d (.int .i64 r.1.Pool.Last)], .agg [.d (.int .i64 r.2.1.Kind), .d (.int .i64 r.2.1.ID), .d (.bool r.2.1.Dup), .d (.str r.2.1.Message.Topic), .d (.str r.2.1.Message.Payload), .d (.int .i64 r.2.1.Message.Level), .d (.bool r.2.1.Message.Retain), .d (.int .i64 r.2.1.Message.Priority), .d (.int .i64 r.2.1.Message.Expires), .d (.str r.2.1.Message.From), .d (.int .i64 r.2.1.Message.Seq), .row 2, .d (.str r.2.1.Client), .d (.str r.2.1.User), .d (.bool r.2.1.Clean), .d (.int .i64 r.2.1.Keep), .d (.int .i64 r.2.1.Expiry), .d (.int .i64 r.2.1.Window), .d (.bool r.2.1.Will.Set), .d (.int .i64 r.2.1.Will.Delay), .d (.str r.2.1.Will.Message.Topic), .d (.str r.2.1.Will.Message.Payload), .d (.int .i64 r.2.1.Will.Message.Level), .d (.bool r.2.1.Will.Message.Retain), .d (.int .i64 r.2.1.Will.Message.Priority), .d (.int .i64 r.2.1.Will.Message.Expires), .d (.str r.2.1.Will.Message.From), .d (.int .i64 r.2.1.Will.Message.Seq), .row 3, .d (.bool r.2.1.Present), .d (.int .i64 r.2.1.Code), .row 4, .row 5, .row 6], .d (.int .i64 r.2.2)] [] [⟨aB.ks, 122, 128, (List.map aB.enc r.1.Items)⟩, ⟨[.int .i64], 3, 8, (List.map (encI .i64) r.1.Pool.Used)⟩, ⟨aD.ks, 130, 32, (List.map aD.enc r.2.1.Message.Props)⟩, ⟨aD.ks, 130, 32, (List.map aD.enc r.2.1.Will.Message.Props)⟩, ⟨aF.ks, 60, 32, (List.map aF.enc r.2.1.Subs)⟩, ⟨[.str], 9, 16, (List.map bF r.2.1.Filters)⟩, ⟨[.int .i64], 3, 8, (List.map (encI .i64) r.2.1.Codes)⟩]
theorem ado : ∀ y z, hI y = hI z → y = z := fun y z h => Prod.ext (aG.inj (congrArg (fun o => [avD (aI 0 (cellsOf (aI 0 (Out.res o)))), D.sl aB.ks (bZ 0 (Out.rws o)), D.sl [.int .i64] (bZ 1 (Out.rws o)), avD (aI 3 (cellsOf (aI 0 (Out.res o))))]) h)) (Prod.ext (aE.inj (congrArg (fun o => [avD (aI 0 (cellsOf (aI 1 (Out.res o)))), avD (aI 1 (cellsOf (aI 1 (Out.res o)))), avD (aI 2 (cellsOf (aI 1 (Out.res o)))), avD (aI 3 (cellsOf (aI 1 (Out.res o)))), avD (aI 4 (cellsOf (aI 1 (Out.res o)))), avD (aI 5 (cellsOf (aI 1 (Out.res o)))), avD (aI 6 (cellsOf (aI 1 (Out.res o)))), avD (aI 7 (cellsOf (aI 1 (Out.res o)))), avD (aI 8 (cellsOf (aI 1 (Out.res o)))), avD (aI 9 (cellsOf (aI 1 (Out.res o)))), avD (aI 10 (cellsOf (aI 1 (Out.res o)))), D.sl aD.ks (bZ 2 (Out.rws o)), avD (aI 12 (cellsOf (aI 1 (Out.res o)))), avD (aI 13 (cellsOf (aI 1 (Out.res o)))), avD (aI 14 (cellsOf (aI 1 (Out.res o)))), avD (aI 15 (cellsOf (aI 1 (Out.res o)))), avD (aI 16 (cellsOf (aI 1 (Out.res o)))), avD (aI 17 (cellsOf (aI 1 (Out.res o)))), avD (aI 18 (cellsOf (aI 1 (Out.res o)))), avD (aI 19 (cellsOf (aI 1 (Out.res o)))), avD (aI 20 (cellsOf (aI 1 (Out.res o)))), avD (aI 21 (cellsOf (aI 1 (Out.res o)))), avD (aI 22 (cellsOf (aI 1 (Out.res o)))), avD (aI 23 (cellsOf (aI 1 (Out.res o)))), avD (aI 24 (cellsOf (aI 1 (Out.res o)))), avD (aI 25 (cellsOf (aI 1 (Out.res o)))), avD (aI 26 (cellsOf (aI 1 (Out.res o)))), avD (aI 27 (cellsOf (aI 1 (Out.res o)))), D.sl aD.ks (bZ 3 (Out.rws o)), avD (aI 29 (cellsOf (aI 1 (Out.res o)))), avD (aI 30 (cellsOf (aI 1 (Out.res o)))), D.sl aF.ks (bZ 4 (Out.rws o)), D.sl [.str] (bZ 5 (Out.rws o)), D.sl [.int .i64] (bZ 6 (Out.rws o))]) h)) (congrArg (fun o => aL (avD (aI 2 (Out.res o)))) h))
def dR : (aC × (List aE)) → Out := fun r => .ret [aC.av r.1, .row 0] [] [⟨aE.ks, 49, 416, (List.map aE.enc r.2)⟩]
theorem rO : ∀ y z, dR y = dR z → y = z := fun y z h => Prod.ext (aC.inj (congrArg (fun o => List.map avD (cellsOf (aI 0 (Out.res o)))) h)) (map_inj aE.inj (congrArg (fun o => bZ 0 (Out.rws o)) h))
def kH : (aC × (List aE)) → Out := fun r => .ret [aC.av r.1, .row 0] [] [⟨aE.ks, 49, 416, (List.map aE.enc r.2)⟩]
theorem aeq : ∀ y z, kH y = kH z → y = z := fun y z h => Prod.ext (aC.inj (congrArg (fun o => List.map avD (cellsOf (aI 0 (Out.res o)))) h)) (map_inj aE.inj (congrArg (fun o => bZ 0 (Out.rws o)) h))
def iN : (Bool × Int) → Out := fun r => .ret [.d (.bool r.1)] [⟨3, [.d (.int .i64 r.2)]⟩] []
theorem acx : ∀ y z, iN y = iN z → y = z := fun y z h => Prod.ext (congrArg (fun o => aY (avD (aI 0 (Out.res o)))) h) (congrArg (fun o => aL (avD (aI 0 (akA 0 (Out.bxs o))))) h)
def bM : (Int × Int) → Out := fun r => .ret [.d (.int .i64 r.1)] [⟨3, [.d (.int .i64 r.2)]⟩] []
theorem nE : ∀ y z, bM y = bM z → y = z := fun y z h => Prod.ext (congrArg (fun o => aL (avD (aI 0 (Out.res o)))) h) (congrArg (fun o => aL (avD (aI 0 (akA 0 (Out.bxs o))))) h)
def j2 : (Int) → Out := fun r => .ret [.d (.int .i64 r)] [] []
theorem ad4 : ∀ y z, j2 y = j2 z → y = z := fun y z h => congrArg (fun o => aL (avD (aI 0 (Out.res o)))) h
def dM : ((List Int)) → Out := fun r => .ret [.row 0] [] [⟨[.int .i64], 3, 8, (List.map (encI .i64) r)⟩]
theorem uP : ∀ y z, dM y = dM z → y = z := fun y z h => map_inj (uH _) (congrArg (fun o => bZ 0 (Out.rws o)) h)
def mG : (aJ × Bool) → Out := fun r => .ret [.agg [.row 0, .d (.int .i64 r.1.Last)], .d (.bool r.2)] [] [⟨[.int .i64], 3, 8, (List.map (encI .i64) r.1.Used)⟩]
theorem af7 : ∀ y z, mG y = mG z → y = z := fun y z h => Prod.ext (aJ.inj (congrArg (fun o => [D.sl [.int .i64] (bZ 0 (Out.rws o)), avD (aI 1 (cellsOf (aI 0 (Out.res o))))]) h)) (congrArg (fun o => aY (avD (aI 1 (Out.res o)))) h)
def bW : ((List aB)) → Out := fun r => .ret [.row 0] [] [⟨aB.ks, 122, 128, (List.map aB.enc r)⟩]
theorem oB : ∀ y z, bW y = bW z → y = z := fun y z h => map_inj aB.inj (congrArg (fun o => bZ 0 (Out.rws o)) h)
def iP : (aG) → Out := fun r => .ret [.agg [.d (.int .i64 r.Limit), .row 0, .row 1, .d (.int .i64 r.Pool.Last)]] [] [⟨aB.ks, 122, 128, (List.map aB.enc r.Items)⟩, ⟨[.int .i64], 3, 8, (List.map (encI .i64) r.Pool.Used)⟩]
theorem tR : ∀ y z, iP y = iP z → y = z := fun y z h => aG.inj (congrArg (fun o => [avD (aI 0 (cellsOf (aI 0 (Out.res o)))), D.sl aB.ks (bZ 0 (Out.rws o)), D.sl [.int .i64] (bZ 1 (Out.rws o)), avD (aI 3 (cellsOf (aI 0 (Out.res o))))]) h)
def eO : (aE) → Out := fun r => .ret [.agg [.d (.int .i64 r.Kind), .d (.int .i64 r.ID), .d (.bool r.Dup), .d (.str r.Message.Topic), .d (.str r.Message.Payload), .d (.int .i64 r.Message.Level), .d (.bool r.Message.Retain), .d (.int .i64 r.Message.Priority), .d (.int .i64 r.Message.Expires), .d (.str r.Message.From), .d (.int .i64 r.Message.Seq), .row 0, .d (.str r.Client), .d (.str r.User), .d (.bool r.Clean), .d (.int .i64 r.Keep), .d (.int .i64 r.Expiry), .d (.int .i64 r.Window), .d (.bool r.Will.Set), .d (.int .i64 r.Will.Delay), .d (.str r.Will.Message.Topic), .d (.str r.Will.Message.Payload), .d (.int .i64 r.Will.Message.Level), .d (.bool r.Will.Message.Retain), .d (.int .i64 r.Will.Message.Priority), .d (.int .i64 r.Will.Message.Expires), .d (.str r.Will.Message.From), .d (.int .i64 r.Will.Message.Seq), .row 1, .d (.bool r.Present), .d (.int .i64 r.Code), .row 2, .row 3, .row 4]] [] [⟨aD.ks, 130, 32, (List.map aD.enc r.Message.Props)⟩, ⟨aD.ks, 130, 32, (List.map aD.enc r.Will.Message.Props)⟩, ⟨aF.ks, 60, 32, (List.map aF.enc r.Subs)⟩, ⟨[.str], 9, 16, (List.map bF r.Filters)⟩, ⟨[.int .i64], 3, 8, (List.map (encI .i64) r.Codes)⟩]
theorem pE : ∀ y z, eO y = eO z → y = z := fun y z h => aE.inj (congrArg (fun o => [avD (aI 0 (cellsOf (aI 0 (Out.res o)))), avD (aI 1 (cellsOf (aI 0 (Out.res o)))), avD (aI 2 (cellsOf (aI 0 (Out.res o)))), avD (aI 3 (cellsOf (aI 0 (Out.res o)))), avD (aI 4 (cellsOf (aI 0 (Out.res o)))), avD (aI 5 (cellsOf (aI 0 (Out.res o)))), avD (aI 6 (cellsOf (aI 0 (Out.res o)))), avD (aI 7 (cellsOf (aI 0 (Out.res o)))), avD (aI 8 (cellsOf (aI 0 (Out.res o)))), avD (aI 9 (cellsOf (aI 0 (Out.res o)))), avD (aI 10 (cellsOf (aI 0 (Out.res o)))), D.sl aD.ks (bZ 0 (Out.rws o)), avD (aI 12 (cellsOf (aI 0 (Out.res o)))), avD (aI 13 (cellsOf (aI 0 (Out.res o)))), avD (aI 14 (cellsOf (aI 0 (Out.res o)))), avD (aI 15 (cellsOf (aI 0 (Out.res o)))), avD (aI 16 (cellsOf (aI 0 (Out.res o)))), avD (aI 17 (cellsOf (aI 0 (Out.res o)))), avD (aI 18 (cellsOf (aI 0 (Out.res o)))), avD (aI 19 (cellsOf (aI 0 (Out.res o)))), avD (aI 20 (cellsOf (aI 0 (Out.res o)))), avD (aI 21 (cellsOf (aI 0 (Out.res o)))), avD (aI 22 (cellsOf (aI 0 (Out.res o)))), avD (aI 23 (cellsOf (aI 0 (Out.res o)))), avD (aI 24 (cellsOf (aI 0 (Out.res o)))), avD (aI 25 (cellsOf (aI 0 (Out.res o)))), avD (aI 26 (cellsOf (aI 0 (Out.res o)))), avD (aI 27 (cellsOf (aI 0 (Out.res o)))), D.sl aD.ks (bZ 1 (Out.rws o)), avD (aI 29 (cellsOf (aI 0 (Out.res o)))), avD (aI 30 (cellsOf (aI 0 (Out.res o)))), D.sl aF.ks (bZ 2 (Out.rws o)), D.sl [.str] (bZ 3 (Out.rws o)), D.sl [.int .i64] (bZ 4 (Out.rws o))]) h)
def eU : (aG × (List aE) × Int) → Out := fun r => .ret [.agg [.d (.int .i64 r.1.Limit), .row 0, .row 1, .d (.int .i64 r.1.Pool.Last)], .row 2, .d (.int .i64 r.2.2)] [] [⟨aB.ks, 122, 128, (List.map aB.enc r.1.Items)⟩, ⟨[.int .i64], 3, 8, (List.map (encI .i64) r.1.Pool.Used)⟩, ⟨aE.ks, 49, 416, (List.map aE.enc r.2.1)⟩]
theorem acy : ∀ y z, eU y = eU z → y = z := fun y z h => Prod.ext (aG.inj (congrArg (fun o => [avD (aI 0 (cellsOf (aI 0 (Out.res o)))), D.sl aB.ks (bZ 0 (Out.rws o)), D.sl [.int .i64] (bZ 1 (Out.rws o)), avD (aI 3 (cellsOf (aI 0 (Out.res o))))]) h)) (Prod.ext (map_inj aE.inj (congrArg (fun o => bZ 2 (Out.rws o)) h)) (congrArg (fun o => aL (avD (aI 2 (Out.res o)))) h))
def iZ : (aC × (List aE) × Int) → Out := fun r => .ret [aC.av r.1, .row 0, .d (.int .i64 r.2.2)] [] [⟨aE.ks, 49, 416, (List.map aE.enc r.2.1)⟩]
theorem acK : ∀ y z, iZ y = iZ z → y = z := fun y z h => Prod.ext (aC.inj (congrArg (fun o => List.map avD (cellsOf (aI 0 (Out.res o)))) h)) (Prod.ext (map_inj aE.inj (congrArg (fun o => bZ 0 (Out.rws o)) h)) (congrArg (fun o => aL (avD (aI 2 (Out.res o)))) h))
def eA : (Bool) → Out := fun r => .ret [.d (.bool r)] [] []
theorem sF : ∀ y z, eA y = eA z → y = z := fun y z h => congrArg (fun o => aY (avD (aI 0 (Out.res o)))) h
def bJ : (Int) → Out := fun r => .ret [.d (.int .i64 r)] [] []
theorem m0 : ∀ y z, bJ y = bJ z → y = z := fun y z h => congrArg (fun o => aL (avD (aI 0 (Out.res o)))) h
def bG : ((List aA)) → Out := fun r => .ret [.row 0] [] [⟨aA.ks, 34, 112, (List.map aA.enc r)⟩]
theorem mJ : ∀ y z, bG y = bG z → y = z := fun y z h => map_inj aA.inj (congrArg (fun o => bZ 0 (Out.rws o)) h)
def eS : (aC) → Out := fun r => .ret [aC.av r] [] []
theorem tP : ∀ y z, eS y = eS z → y = z := fun y z h => aC.inj (congrArg (fun o => List.map avD (cellsOf (aI 0 (Out.res o)))) h)
def gH : ((List aE)) → Out := fun r => .ret [.row 0] [] [⟨aE.ks, 49, 416, (List.map aE.enc r)⟩]
theorem acH : ∀ y z, gH y = gH z → y = z := fun y z h => map_inj aE.inj (congrArg (fun o => bZ 0 (Out.rws o)) h)
def jM : (aC × (List aE)) → Out := fun r => .ret [aC.av r.1, .row 0] [] [⟨aE.ks, 49, 416, (List.map aE.enc r.2)⟩]
theorem adg : ∀ y z, jM y = jM z → y = z := fun y z h => Prod.ext (aC.inj (congrArg (fun o => List.map avD (cellsOf (aI 0 (Out.res o)))) h)) (map_inj aE.inj (congrArg (fun o => bZ 0 (Out.rws o)) h))
def eQ : (Bool) → Out := fun r => .ret [.d (.bool r)] [] []
theorem mS : ∀ y z, eQ y = eQ z → y = z := fun y z h => congrArg (fun o => aY (avD (aI 0 (Out.res o)))) h
def eZ : (Bool) → Out := fun r => .ret [.d (.bool r)] [] []
theorem n8 : ∀ y z, eZ y = eZ z → y = z := fun y z h => congrArg (fun o => aY (avD (aI 0 (Out.res o)))) h
def fG : (Bool) → Out := fun r => .ret [.d (.bool r)] [] []
theorem zC : ∀ y z, fG y = fG z → y = z := fun y z h => congrArg (fun o => aY (avD (aI 0 (Out.res o)))) h
def jP : (Bool) → Out := fun r => .ret [.d (.bool r)] [] []
def good : FuncId → Out → Prop := fun f o => match f with | 100 => ∃ x, gY x = o | 101 => ∃ x, gO x = o | 48 => ∃ x, cE x = o | 94 => ∃ x, jK x = o | 41 => ∃ x, eG x = o | 168 => ∃ x, dJ x = o | 99 => ∃ x, cU x = o | 150 => ∃ x, cM x = o | 98 => ∃ x, c9 x = o | 167 => ∃ x, cC x = o | 166 => ∃ x, cD x = o | 133 => ∃ x, fY x = o | 134 => ∃ x, gX x = o | 135 => ∃ x, fT x = o | 69 => ∃ x, iQ x = o | 42 => ∃ x, fJ x = o | 47 => ∃ x, gS x = o | 102 => ∃ x, eP x = o | 49 => ∃ x, eW x = o | 13 => ∃ x, bV x = o | 43 => ∃ x, eY x = o | 95 => ∃ x, c8 x = o | 148 => ∃ x, gF x = o | 115 => ∃ x, g9 x = o | 96 => ∃ x, fH x = o | 44 => ∃ x, eC x = o | 45 => ∃ x, g4 x = o | 149 => ∃ x, dG x = o | 97 => ∃ x, hX x = o | 46 => ∃ x, g6 x = o | 40 => ∃ x, dY x = o | 12 => ∃ x, gP x = o | 22 => ∃ x, dD x = o | 18 => ∃ x, gV x = o | 138 => ∃ x, bP x = o | 80 => ∃ x, cQ x = o | 81 => ∃ x, kK x = o | 31 => ∃ x, lA x = o | 163 => ∃ x, cV x = o | 179 => ∃ x, eN x = o | 159 => ∃ x, gT x = o | 193 => ∃ x, eM x = o | 189 => ∃ x, eD x = o | 180 => ∃ x, iS x = o | 160 => ∃ x, kV x = o | 139 => ∃ x, eF x = o | 161 => ∃ x, fC x = o | 199 => ∃ x, gA x = o | 198 => ∃ x, iF x = o | 190 => ∃ x, cX x = o | 181 => ∃ x, j0 x = o | 162 => ∃ x, kI x = o | 126 => ∃ x, dQ x = o | 127 => ∃ x, dV x = o | 124 => ∃ x, kD x = o | 125 => ∃ x, fW x = o | 66 => ∃ x, hZ x = o | 164 => ∃ x, eK x = o | 130 => ∃ x, iM x = o | 129 => ∃ x, jL x = o | 128 => ∃ x, bH x = o | 67 => ∃ x, kE x = o | 103 => ∃ x, cK x = o | 104 => ∃ x, bN x = o | 50 => ∃ x, bS x = o | 68 => ∃ x, cH x = o | 26 => ∃ x, dU x = o | 51 => ∃ x, dB x = o | 106 => ∃ x, iJ x = o | 105 => ∃ x, kG x = o | 52 => ∃ x, iU x = o | 15 => ∃ x, iH x = o | 113 => ∃ x, iL x = o | 156 => ∃ x, iB x = o | 169 => ∃ x, jR x = o | 170 => ∃ x, mE x = o | 184 => ∃ x, iI x = o | 171 => ∃ x, iG x = o | 141 => ∃ x, jV x = o | 177 => ∃ x, mD x = o | 191 => ∃ x, jG x = o | 185 => ∃ x, jX x = o | 186 => ∃ x, gU x = o | 175 => ∃ x, bO x = o | 178 => ∃ x, dK x = o | 157 => ∃ x, kC x = o | 153 => ∃ x, dA x = o | 110 => ∃ x, c7 x = o | 147 => ∃ x, eI x = o | 114 => ∃ x, hI x = o | 61 => ∃ x, dR x = o | 34 => ∃ x, kH x = o | 152 => ∃ x, iN x = o | 151 => ∃ x, bM x = o | 109 => ∃ x, j2 x = o | 176 => ∃ x, dM x = o | 154 => ∃ x, mG x = o | 155 => ∃ x, bW x = o | 111 => ∃ x, iP x = o | 112 => ∃ x, eO x = o | 60 => ∃ x, eU x = o | 19 => ∃ x, iZ x = o | 65 => ∃ x, eA x = o | 123 => ∃ x, bJ x = o | 64 => ∃ x, bG x = o | 23 => ∃ x, eS x = o | 91 => ∃ x, gH x = o | 36 => ∃ x, jM x = o | 24 => ∃ x, eQ x = o | 14 => ∃ x, eZ x = o | 25 => ∃ x, fG x = o | 5 => ∃ x, jP x = o | _ => False
abbrev cT {R : Type} (g : FuncId) (out : R → Out) : Gm R := afN SE good g out
noncomputable abbrev gG : Fun := qF SE good
end Te
end PX
