import Derived.Test.YtmcpanmcgpjfiaaGreatDoorMod
import Derived.Test.YtmcpanmcgpjfiaaGreatDoorProg
set_option linter.unusedVariables false
set_option linter.unusedSimpArgs false
noncomputable section
namespace PX
open Go
open Md
namespace Te
def tyL : List (Nat × TI) := [(3, ⟨[.int .i64], false, 8, [], 0⟩),
 (4, ⟨[.bool], false, 1, [], 0⟩),
 (5, ⟨[.int .u8], false, 1, [], 0⟩),
 (9, ⟨[.str], false, 16, [], 0⟩),
 (21, ⟨[.int .i32], false, 4, [], 0⟩),
 (22, ⟨[.sl [.str, .int .i64, .int .i64]], false, 24, [], 24⟩),
 (24, ⟨[.str, .int .i64, .int .i64], true, 32, [(0, 9), (1, 3), (2, 3)], 0⟩),
 (26, ⟨[.int .i64], false, 8, [], 0⟩),
 (30, ⟨[.sl [.str, .int .i64, .bool]], false, 24, [], 72⟩),
 (31, ⟨[.sl [.str, .str, .int .i64, .bool, .int .i64, .int .i64, .str, .int .i64, .sl [.str, .str]]], false, 24, [], 42⟩),
 (32, ⟨[.sl [.int .i64, .int .i64, .str, .str, .int .i64, .bool, .int .i64, .int .i64, .str, .int .i64, .sl [.str, .str]]], false, 24, [], 78⟩),
 (33, ⟨[.sl [.int .i64]], false, 24, [], 3⟩),
 (35, ⟨[.sl [.int .i64], .int .i64], true, 32, [(0, 33), (1, 3)], 0⟩),
 (37, ⟨[.int .i64, .sl [.int .i64, .int .i64, .str, .str, .int .i64, .bool, .int .i64, .int .i64, .str, .int .i64, .sl [.str, .str]], .sl [.int .i64], .int .i64], true, 64, [(0, 3), (1, 32), (2, 35)], 0⟩),
 (39, ⟨[.sl [.int .i64]], true, 24, [(0, 33)], 0⟩),
 (40, ⟨[.sl [.str, .str]], false, 24, [], 128⟩),
 (42, ⟨[.str, .str, .int .i64, .bool, .int .i64, .int .i64, .str, .int .i64, .sl [.str, .str]], true, 112, [(0, 9), (1, 9), (2, 3), (3, 4), (4, 3), (5, 3), (6, 9), (7, 3), (8, 40)], 0⟩),
 (44, ⟨[.bool, .int .i64, .str, .str, .int .i64, .bool, .int .i64, .int .i64, .str, .int .i64, .sl [.str, .str]], true, 128, [(0, 4), (1, 3), (2, 42)], 0⟩),
 (46, ⟨[.str, .str, .bool, .int .i64, .int .i64, .int .i64, .int .i64, .sl [.str, .int .i64, .bool], .sl [.str, .str, .int .i64, .bool, .int .i64, .int .i64, .str, .int .i64, .sl [.str, .str]], .int .i64, .sl [.int .i64, .int .i64, .str, .str, .int .i64, .bool, .int .i64, .int .i64, .str, .int .i64, .sl [.str, .str]], .sl [.int .i64], .int .i64, .sl [.int .i64], .bool, .int .i64, .str, .str, .int .i64, .bool, .int .i64, .int .i64, .str, .int .i64, .sl [.str, .str]], true, 336, [(0, 9), (1, 9), (2, 4), (3, 3), (4, 3), (5, 3), (6, 3), (7, 30), (8, 31), (9, 37), (13, 39), (14, 44)], 0⟩),
 (48, ⟨[.sl [.int .u8]], false, 24, [], 5⟩),
 (56, ⟨[.int .u16], false, 2, [], 0⟩),
 (69, ⟨[.fn], false, 8, [], 0⟩),
 (72, ⟨[.str, .int .i64, .bool], true, 32, [(0, 9), (1, 3), (2, 4)], 0⟩),
 (73, ⟨[.fn], false, 8, [], 0⟩),
 (75, ⟨[.fn], false, 8, [], 0⟩),
 (78, ⟨[.int .i64, .int .i64, .str, .str, .int .i64, .bool, .int .i64, .int .i64, .str, .int .i64, .sl [.str, .str]], true, 128, [(0, 3), (1, 3), (2, 42)], 0⟩),
 (79, ⟨[.fn], false, 8, [], 0⟩),
 (83, ⟨[.ptr], false, 8, [], 0⟩),
 (85, ⟨[.sl [.int .u8], .int .i64, .int .i64], true, 40, [(0, 48), (1, 3), (2, 26)], 0⟩),
 (87, ⟨[.fn], false, 8, [], 0⟩),
 (89, ⟨[.fn], false, 8, [], 0⟩),
 (91, ⟨[.fn], false, 8, [], 0⟩),
 (93, ⟨[.fn], false, 8, [], 0⟩),
 (114, ⟨[.sl [.int .i64]], false, 24, [], 26⟩),
 (117, ⟨[.fn], false, 8, [], 0⟩),
 (126, ⟨[.sl [.bool]], false, 24, [], 4⟩),
 (128, ⟨[.str, .str], true, 32, [(0, 9), (1, 9)], 0⟩),
 (147, ⟨[.int .u64], false, 8, [], 0⟩),
 (149, ⟨[.int .u64], false, 8, [], 0⟩),
 (151, ⟨[.ptr], false, 8, [], 0⟩),
 (153, ⟨[.sl [.int .u8], .int .i64, .int .i64], true, 40, [(0, 48), (1, 3), (2, 26)], 0⟩),
 (167, ⟨[.sl [.str]], false, 24, [], 9⟩),
 (171, ⟨[.fn], false, 8, [], 0⟩)]
def fnL : List (Nat × Func) := [(17, Go.Proofs.Tryz.f17), (32, Go.Proofs.Tryz.f32), (78, Go.Proofs.Tryz.f78), (77, Go.Proofs.Tryz.f77), (79, Go.Proofs.Tryz.f79), (80, Go.Proofs.Tryz.f80), (26, Go.Proofs.Tryz.f26), (83, Go.Proofs.Tryz.f83), (31, Go.Proofs.Tryz.f31), (15, Go.Proofs.Tryz.f15), (13, Go.Proofs.Tryz.f13), (29, Go.Proofs.Tryz.f29), (116, Go.Proofs.Tryz.f116), (86, Go.Proofs.Tryz.f86), (158, Go.Proofs.Tryz.f158), (164, Go.Proofs.Tryz.f164), (154, Go.Proofs.Tryz.f154), (172, Go.Proofs.Tryz.f172), (169, Go.Proofs.Tryz.f169), (165, Go.Proofs.Tryz.f165), (155, Go.Proofs.Tryz.f155), (156, Go.Proofs.Tryz.f156), (178, Go.Proofs.Tryz.f178), (177, Go.Proofs.Tryz.f177), (170, Go.Proofs.Tryz.f170), (166, Go.Proofs.Tryz.f166), (157, Go.Proofs.Tryz.f157), (141, Go.Proofs.Tryz.f141), (142, Go.Proofs.Tryz.f142), (139, Go.Proofs.Tryz.f139), (140, Go.Proofs.Tryz.f140), (117, Go.Proofs.Tryz.f117), (143, Go.Proofs.Tryz.f143), (128, Go.Proofs.Tryz.f128), (159, Go.Proofs.Tryz.f159), (144, Go.Proofs.Tryz.f144), (118, Go.Proofs.Tryz.f118), (87, Go.Proofs.Tryz.f87), (119, Go.Proofs.Tryz.f119), (171, Go.Proofs.Tryz.f171), (167, Go.Proofs.Tryz.f167), (168, Go.Proofs.Tryz.f168), (160, Go.Proofs.Tryz.f160), (145, Go.Proofs.Tryz.f145), (162, Go.Proofs.Tryz.f162), (161, Go.Proofs.Tryz.f161), (146, Go.Proofs.Tryz.f146), (120, Go.Proofs.Tryz.f120), (88, Go.Proofs.Tryz.f88), (89, Go.Proofs.Tryz.f89), (121, Go.Proofs.Tryz.f121), (90, Go.Proofs.Tryz.f90), (35, Go.Proofs.Tryz.f35), (92, Go.Proofs.Tryz.f92), (122, Go.Proofs.Tryz.f122), (91, Go.Proofs.Tryz.f91), (36, Go.Proofs.Tryz.f36), (37, Go.Proofs.Tryz.f37), (45, Go.Proofs.Tryz.f45), (39, Go.Proofs.Tryz.f39), (38, Go.Proofs.Tryz.f38), (93, Go.Proofs.Tryz.f93), (41, Go.Proofs.Tryz.f41), (40, Go.Proofs.Tryz.f40), (43, Go.Proofs.Tryz.f43), (42, Go.Proofs.Tryz.f42), (44, Go.Proofs.Tryz.f44), (18, Go.Proofs.Tryz.f18), (124, Go.Proofs.Tryz.f124), (100, Go.Proofs.Tryz.f100), (99, Go.Proofs.Tryz.f99), (47, Go.Proofs.Tryz.f47), (48, Go.Proofs.Tryz.f48), (56, Go.Proofs.Tryz.f56), (50, Go.Proofs.Tryz.f50), (49, Go.Proofs.Tryz.f49), (125, Go.Proofs.Tryz.f125), (126, Go.Proofs.Tryz.f126), (127, Go.Proofs.Tryz.f127), (101, Go.Proofs.Tryz.f101), (52, Go.Proofs.Tryz.f52), (51, Go.Proofs.Tryz.f51), (54, Go.Proofs.Tryz.f54), (53, Go.Proofs.Tryz.f53), (55, Go.Proofs.Tryz.f55), (21, Go.Proofs.Tryz.f21), (20, Go.Proofs.Tryz.f20), (12, Go.Proofs.Tryz.f12), (84, Go.Proofs.Tryz.f84), (85, Go.Proofs.Tryz.f85), (33, Go.Proofs.Tryz.f33), (110, Go.Proofs.Tryz.f110), (71, Go.Proofs.Tryz.f71), (152, Go.Proofs.Tryz.f152), (148, Go.Proofs.Tryz.f148), (163, Go.Proofs.Tryz.f163), (147, Go.Proofs.Tryz.f147), (151, Go.Proofs.Tryz.f151), (150, Go.Proofs.Tryz.f150), (133, Go.Proofs.Tryz.f133), (134, Go.Proofs.Tryz.f134), (135, Go.Proofs.Tryz.f135), (111, Go.Proofs.Tryz.f111), (72, Go.Proofs.Tryz.f72), (130, Go.Proofs.Tryz.f130), (149, Go.Proofs.Tryz.f149), (131, Go.Proofs.Tryz.f131), (106, Go.Proofs.Tryz.f106), (73, Go.Proofs.Tryz.f73), (112, Go.Proofs.Tryz.f112), (136, Go.Proofs.Tryz.f136), (137, Go.Proofs.Tryz.f137), (113, Go.Proofs.Tryz.f113), (74, Go.Proofs.Tryz.f74), (75, Go.Proofs.Tryz.f75), (132, Go.Proofs.Tryz.f132), (107, Go.Proofs.Tryz.f107), (76, Go.Proofs.Tryz.f76), (70, Go.Proofs.Tryz.f70), (24, Go.Proofs.Tryz.f24), (65, Go.Proofs.Tryz.f65), (66, Go.Proofs.Tryz.f66), (109, Go.Proofs.Tryz.f109), (108, Go.Proofs.Tryz.f108), (67, Go.Proofs.Tryz.f67), (68, Go.Proofs.Tryz.f68), (69, Go.Proofs.Tryz.f69), (23, Go.Proofs.Tryz.f23), (25, Go.Proofs.Tryz.f25), (6, Go.Proofs.Tryz.f6)]
def tmL : List (Nat × (List Sh × List (TypeId × List Sh))) := [(17, ([.bool], [])),
 (32, ([.bool], [])),
 (78, ([.str], [])),
 (77, ([.int .i64, .bool], [])),
 (79, ([.row 0 aA.ks 24 32], [])),
 (80, ([.row 0 aA.ks 24 32], [])),
 (26, ([.row 0 aA.ks 24 32, aA.sh, .int .i64], [])),
 (83, ([.int .i64], [])),
 (31, ([.bool], [])),
 (15, ([.bool], [])),
 (13, ([.int .i64], [])),
 (29, ([.row 0 aA.ks 24 32], [])),
 (116, ([.bool], [])),
 (86, ([.int .i64], [])),
 (158, ([.bool], [])),
 (164, ([.str, .bool], [])),
 (154, ([.str, .bool], [])),
 (172, ([.int .i64], [])),
 (169, ([.int .i64], [])),
 (165, ([.str, .str, .bool], [])),
 (155, ([.str, .str, .bool], [])),
 (156, ([.bool], [])),
 (178, ([.int .i64], [])),
 (177, ([.int .i64], [])),
 (170, ([.sl [.str]], [])),
 (166, ([.sl [.str]], [])),
 (157, ([.sl [.str]], [])),
 (141, ([.bool], [])),
 (142, ([.bool], [])),
 (139, ([.str, .str, .bool], [])),
 (140, ([.bool], [(72, aK.shs)])),
 (117, ([.int .i64], [])),
 (143, ([.bool], [])),
 (128, ([.bool], [])),
 (159, ([.bool], [])),
 (144, ([.int .i64], [])),
 (118, ([.int .i64], [])),
 (87, ([.int .i64], [])),
 (119, ([.int .i64], [])),
 (171, ([.bool], [])),
 (167, ([.bool], [])),
 (168, ([.bool], [])),
 (160, ([.int .i64, .bool], [])),
 (145, ([.bool], [])),
 (162, ([.bool], [(3, [.int .i64])])),
 (161, ([.int .i64], [(3, [.int .i64])])),
 (146, ([.int .i64], [])),
 (120, ([.int .i64], [])),
 (88, ([.int .i64], [])),
 (89, ([.int .i64], [])),
 (121, ([.bool], [])),
 (90, ([.int .i64], [])),
 (35, ([.int .i64], [])),
 (92, ([.row 0 [.int .u8] 5 1], [])),
 (122, ([.int .u64], [])),
 (91, ([.row 0 [.int .u8] 5 1], [])),
 (36, ([.row 0 [.int .u8] 5 1], [])),
 (37, ([.row 0 [.int .u8] 5 1], [])),
 (45, ([.int .i64], [])),
 (39, ([.row 0 [.int .u8] 5 1], [])),
 (38, ([.row 0 [.int .u8] 5 1], [])),
 (93, ([.int .i64], [])),
 (41, ([.row 0 [.int .u8] 5 1], [])),
 (40, ([.row 0 [.int .u8] 5 1], [])),
 (43, ([.row 0 [.int .u8] 5 1], [])),
 (42, ([.row 0 [.int .u8] 5 1], [])),
 (44, ([.row 0 [.int .u8] 5 1], [])),
 (18, ([.row 0 [.int .u8] 5 1, .int .i64], [])),
 (124, ([.int .i64], [])),
 (100, ([.int .i64, .int .i64, .int .i64], [])),
 (99, ([.str, .int .i64, .int .i64], [])),
 (47, ([.str], [(85, aH.shs)])),
 (48, ([.int .i64], [(85, aH.shs)])),
 (56, ([.bool], [(85, aH.shs)])),
 (50, ([aK.sh], [(85, aH.shs)])),
 (49, ([.row 0 aK.ks 72 32], [(85, aH.shs)])),
 (125, ([.str], [(153, aN.shs)])),
 (126, ([.int .i64], [(153, aN.shs)])),
 (127, ([], [(153, aN.shs)])),
 (101, ([.agg [.str, .str, .int .i64, .bool, .int .i64, .int .i64, .str, .int .i64, .row 0 aG.ks 128 32], .int .i64, .int .i64], [])),
 (52, ([.agg [.str, .str, .int .i64, .bool, .int .i64, .int .i64, .str, .int .i64, .row 0 aG.ks 128 32]], [(85, aH.shs)])),
 (51, ([.row 0 aC.ks 42 112], [(85, aH.shs)])),
 (54, ([.agg [.int .i64, .int .i64, .str, .str, .int .i64, .bool, .int .i64, .int .i64, .str, .int .i64, .row 0 aG.ks 128 32]], [(85, aH.shs)])),
 (53, ([.row 0 aE.ks 78 128], [(85, aH.shs)])),
 (55, ([.row 0 [.int .i64] 3 8], [(85, aH.shs)])),
 (21, ([.agg [.str, .str, .bool, .int .i64, .int .i64, .int .i64, .int .i64, .row 0 aK.ks 72 32, .row 1 aC.ks 42 112, .int .i64, .row 2 aE.ks 78 128, .row 3 [.int .i64] 3 8, .int .i64, .row 4 [.int .i64] 3 8, .bool, .int .i64, .str, .str, .int .i64, .bool, .int .i64, .int .i64, .str, .int .i64, .row 5 aG.ks 128 32], .int .i64], [])),
 (20, ([.bool], [])),
 (12, ([.bool], [])),
 (84, ([.bool], [])),
 (85, ([.bool], [])),
 (33, ([.bool], [])),
 (110, ([.bool], [])),
 (71, ([.int .i64], [])),
 (152, ([.bool], [])),
 (148, ([.bool], [])),
 (163, ([.row 0 [.str] 9 16], [])),
 (147, ([.bool], [])),
 (151, ([.bool], [])),
 (150, ([.str, .str, .bool], [])),
 (133, ([.bool], [])),
 (134, ([.bool], [])),
 (135, ([.bool], [])),
 (111, ([.int .i64], [])),
 (72, ([.int .i64], [])),
 (130, ([.bool], [])),
 (149, ([.bool], [])),
 (131, ([.int .i64], [])),
 (106, ([.int .i64], [])),
 (73, ([.int .i64], [])),
 (112, ([.int .i64], [])),
 (136, ([.bool], [])),
 (137, ([.int .i64], [])),
 (113, ([.int .i64], [])),
 (74, ([.int .i64], [])),
 (75, ([.int .i64], [])),
 (132, ([.bool], [])),
 (107, ([.bool], [])),
 (76, ([.int .i64], [])),
 (70, ([.int .i64], [])),
 (24, ([.int .i64], [])),
 (65, ([.bool], [])),
 (66, ([.bool], [])),
 (109, ([.bool], [])),
 (108, ([.bool], [])),
 (67, ([.bool], [])),
 (68, ([.bool], [])),
 (69, ([.bool], [])),
 (23, ([.bool], [])),
 (25, ([.row 0 [.int .u8] 5 1], [])),
 (6, ([.bool], []))]
def mvL : List (Nat × Bool) := [(80, true), (91, true)]
def naL : List (Nat × List (List (Option (List CK × TypeId × Nat)))) := [(80, [[some (aA.ks, 24, 32)], [], [some (aA.ks, 24, 32)]]), (91, [[some ([.int .u8], 5, 1)], []])]
def hlL : List (Nat × List (Nat × Hint)) := [(32, [(4, ⟨[(15, .it 4000)], [], []⟩)]),
 (77, [(2, ⟨[(0, .sl aA.ks), (1, .str), (2, .fn 78 [] []), (8, .int .i64)], [], []⟩)]),
 (83, [(2, ⟨[(0, .sl aA.ks), (3, .ptr 1000000000 0), (7, .int .i64), (8, .int .i64)], [(24, aA.shs)], []⟩)]),
 (13, [(4, ⟨[(0, .sl aA.ks), (8, .sl aA.ks), (9, .int .i64), (10, .int .i64)], [], []⟩)]),
 (29, [(3, ⟨[(5, .row 3005 aA.ks 24 32), (12, .sl aA.ks), (13, .int .i64), (14, .int .i64)], [], []⟩)]),
 (156, [(5, ⟨[(3, .int .i64), (15, .it 4000)], [], []⟩)]),
 (177, [(6, ⟨[(0, .str), (1, .str), (5, .int .i64)], [], []⟩)]),
 (170, [(11, ⟨[(0, .str), (1, .str), (2, .int .i64), (3, .int .i64), (9, .row 3009 [.str] 9 16), (10, .int .i64)], [], []⟩)]),
 (141, [(6, ⟨[(3, .sl [.str]), (4, .bool), (15, .sl [.str]), (16, .int .i64), (17, .int .i64)], [], []⟩), (9, ⟨[(3, .sl [.str]), (4, .bool), (5, .int .i64), (6, .str), (15, .sl [.str]), (16, .int .i64), (17, .int .i64), (23, .it 4000)], [], []⟩)]),
 (143, [(4, ⟨[(9, .it 4000)], [], []⟩)]),
 (159, [(4, ⟨[(0, .str), (3, .int .i64)], [], []⟩)]),
 (144, [(4, ⟨[(0, .sl aG.ks), (8, .sl aG.ks), (9, .int .i64), (10, .int .i64)], [], []⟩)]),
 (87, [(4, ⟨[(1, .ptr 1000000000 0), (14, .sl aK.ks), (15, .int .i64), (16, .int .i64)], [(46, aI.shs)], []⟩), (15, ⟨[(46, .sl aC.ks), (47, .int .i64), (48, .int .i64)], [], []⟩)]),
 (119, [(5, ⟨[(1, .ptr 1000000000 0), (3, .int .i64), (11, .sl [.int .i64]), (12, .int .i64), (13, .int .i64)], [(35, bE.shs)], []⟩)]),
 (160, [(3, ⟨[(0, .sl [.int .i64]), (1, .int .i64), (6, .int .i64), (7, .int .i64), (8, .int .i64)], [], []⟩)]),
 (161, [(2, ⟨[(0, .sl aE.ks), (1, .fn 162 [] [.ptr 2000000000 0]), (7, .int .i64), (8, .int .i64)], [], [(3, [.int .i64])]⟩)]),
 (88, [(9, ⟨[(1, .ptr 1000000000 0), (26, .int .i64), (27, .int .i64)], [(37, aO.shs)], []⟩)]),
 (89, [(5, ⟨[(3, .int .i64), (11, .sl [.int .i64]), (12, .int .i64), (13, .int .i64)], [], []⟩)]),
 (121, [(4, ⟨[(3, .ptr 1000000000 0), (71, .sl aG.ks), (72, .int .i64), (73, .int .i64)], [(42, aC.shs)], []⟩)]),
 (91, [(2, ⟨[(0, .row 3000 [.int .u8] 5 1), (5, .int .u64)], [], []⟩)]),
 (38, [(3, ⟨[(0, .row 3000 [.int .u8] 5 1), (2, .fn 39 [] []), (13, .sl aK.ks), (14, .int .i64), (15, .int .i64)], [], []⟩)]),
 (93, [(3, ⟨[(0, .sl [.bool]), (3, .int .i64), (4, .int .i64)], [], []⟩)]),
 (41, [(8, ⟨[(5, .row 3005 [.int .u8] 5 1), (45, .sl aG.ks), (46, .int .i64), (47, .int .i64)], [], []⟩)]),
 (40, [(3, ⟨[(0, .row 3000 [.int .u8] 5 1), (2, .fn 41 [] []), (13, .sl aC.ks), (14, .int .i64), (15, .int .i64)], [], []⟩)]),
 (42, [(3, ⟨[(0, .row 3000 [.int .u8] 5 1), (2, .fn 43 [] []), (13, .sl aE.ks), (14, .int .i64), (15, .int .i64)], [], []⟩)]),
 (44, [(3, ⟨[(0, .row 3000 [.int .u8] 5 1), (2, .fn 37 [] []), (13, .sl [.int .i64]), (14, .int .i64), (15, .int .i64)], [], []⟩)]),
 (100, [(6, ⟨[(0, .sl [.int .u8]), (1, .int .i64), (7, .int .u64), (8, .int .i64)], [], []⟩)]),
 (49, [(11, ⟨[(0, .ptr 2000000000 0), (2, .fn 50 [.ptr 2000000000 0] []), (7, .int .i64), (8, .row 3008 aK.ks 72 32)], [], [(85, aH.shs)]⟩)]),
 (101, [(17, ⟨[(4, .ptr 1000000000 0), (7, .ptr 1000000001 0), (8, .ptr 1000000002 0), (10, .int .i64), (11, .int .i64)], [(42, aC.shs), (153, aN.shs), (42, [.str, .str, .int .i64, .bool, .int .i64, .int .i64, .str, .int .i64, .row 50208 aG.ks 128 32])], []⟩)]),
 (51, [(11, ⟨[(0, .ptr 2000000000 0), (2, .fn 52 [.ptr 2000000000 0] []), (7, .int .i64), (8, .row 3008 aC.ks 42 112)], [], [(85, aH.shs)]⟩)]),
 (53, [(11, ⟨[(0, .ptr 2000000000 0), (2, .fn 54 [.ptr 2000000000 0] []), (7, .int .i64), (8, .row 3008 aE.ks 78 128)], [], [(85, aH.shs)]⟩)]),
 (55, [(11, ⟨[(0, .ptr 2000000000 0), (2, .fn 48 [.ptr 2000000000 0] []), (7, .int .i64), (8, .row 3008 [.int .i64] 3 8)], [], [(85, aH.shs)]⟩)]),
 (33, [(4, ⟨[(0, .str), (3, .int .i64)], [], []⟩)]),
 (148, [(2, ⟨[(0, .str), (1, .int .u8), (5, .int .i64)], [], []⟩)]),
 (163, [(4, ⟨[(0, .str), (3, .row 3003 [.str] 9 16), (4, .int .i64), (5, .int .i64)], [], []⟩)]),
 (151, [(5, ⟨[(3, .row 3003 [.str] 9 16), (4, .int .i64)], [], []⟩)]),
 (150, [(5, ⟨[(5, .str), (6, .int .i64)], [], []⟩)]),
 (72, [(4, ⟨[(0, .sl aK.ks), (3, .int .i64)], [], []⟩)]),
 (149, [(4, ⟨[(0, .str), (3, .int .i64)], [], []⟩)]),
 (131, [(4, ⟨[(0, .sl aG.ks), (3, .int .i64)], [], []⟩)]),
 (73, [(4, ⟨[(0, .sl aC.ks), (3, .int .i64)], [], []⟩)]),
 (112, [(4, ⟨[(1, .ptr 1000000000 0), (3, .int .i64)], [(35, bE.shs)], []⟩)]),
 (136, [(2, ⟨[(1, .int .i64), (2, .ptr 1000000000 0), (5, .int .i64)], [(35, bE.shs)], []⟩)]),
 (137, [(2, ⟨[(0, .sl aE.ks), (1, .int .i64), (5, .int .i64)], [], []⟩)]),
 (74, [(9, ⟨[(1, .ptr 1000000000 0), (4, .int .i64)], [(37, aO.shs)], []⟩)]),
 (132, [(4, ⟨[(0, .sl aG.ks), (1, .sl aG.ks), (5, .int .i64)], [], []⟩)]),
 (70, [(2, ⟨[(0, .sl [.int .i64]), (3, .int .i64)], [], []⟩)]),
 (65, [(4, ⟨[(0, .sl aK.ks), (1, .sl aK.ks), (5, .int .i64)], [], []⟩)]),
 (66, [(4, ⟨[(0, .sl aC.ks), (1, .sl aC.ks), (5, .int .i64)], [], []⟩)]),
 (109, [(4, ⟨[(0, .sl [.int .i64]), (1, .sl [.int .i64]), (5, .int .i64)], [], []⟩)]),
 (67, [(4, ⟨[(2, .ptr 1000000000 0), (3, .ptr 1000000001 0), (5, .int .i64)], [(37, aO.shs), (37, aO.shs)], []⟩)])]
def hrL : List (Nat × List (Nat × Hint)) := [(32, [(3, ⟨[(0, .str)], [], []⟩), (7, ⟨[(3, .int .i64), (4, .int .i32), (5, .bool), (15, .it 4000)], [], []⟩)]),
 (77, [(4, ⟨[(0, .sl aA.ks), (1, .str), (2, .fn 78 [] []), (8, .int .i64)], [], []⟩)]),
 (26, [(5, ⟨[(0, .sl aA.ks), (1, .str), (2, .int .i64), (7, .ptr 1000000000 0)], [(24, aA.shs)], []⟩), (8, ⟨[(0, .sl aA.ks), (1, .str), (2, .int .i64), (7, .ptr 1000000000 0), (9, .int .i64), (10, .bool)], [(24, aA.shs)], []⟩)]),
 (86, [(3, ⟨[(1, .ptr 1000000000 0)], [(46, aI.shs)], []⟩), (5, ⟨[(1, .ptr 1000000000 0)], [(46, aI.shs)], []⟩)]),
 (156, [(3, ⟨[(0, .str)], [], []⟩)]),
 (170, [(7, ⟨[(0, .str), (1, .str), (2, .int .i64), (3, .int .i64)], [], []⟩), (17, ⟨[(0, .str), (9, .row 3009 [.str] 9 16), (10, .int .i64)], [], []⟩)]),
 (159, [(3, ⟨[(0, .str)], [], []⟩)]),
 (120, [(4, ⟨[(5, .ptr 1000000000 0)], [(78, aE.shs)], []⟩)]),
 (88, [(3, ⟨[(1, .ptr 1000000000 0)], [(37, aO.shs)], []⟩)]),
 (121, [(3, ⟨[(2, .ptr 1000000000 0), (3, .ptr 1000000001 0)], [(42, aC.shs), (42, aC.shs)], []⟩)]),
 (93, [(5, ⟨[(0, .sl [.bool]), (3, .int .i64), (4, .int .i64), (10, .int .i64), (11, .bool)], [], []⟩)]),
 (100, [(3, ⟨[(0, .sl [.int .u8]), (1, .int .i64)], [], []⟩), (11, ⟨[(0, .sl [.int .u8]), (1, .int .i64), (7, .int .u64), (8, .int .i64), (9, .int .u8), (39, .int .i64), (40, .bool), (41, .bool), (44, .bool)], [], []⟩)]),
 (101, [(19, ⟨[(4, .ptr 1000000000 0), (7, .ptr 1000000001 0), (8, .ptr 1000000002 0), (10, .int .i64), (11, .int .i64), (62, .ptr 1000000001 0), (63, .ptr 1000000001 0), (64, .ptr 1000000001 2), (65, .int .i64), (66, .bool)], [(42, aC.shs), (153, aN.shs), (42, [.str, .str, .int .i64, .bool, .int .i64, .int .i64, .str, .int .i64, .row 50208 aG.ks 128 32])], []⟩), (22, ⟨[(4, .ptr 1000000000 0), (7, .ptr 1000000001 0), (8, .ptr 1000000002 0)], [(42, aC.shs), (153, aN.shs), (42, [.str, .str, .int .i64, .bool, .int .i64, .int .i64, .str, .int .i64, .row 50208 aG.ks 128 32])], []⟩), (24, ⟨[(4, .ptr 1000000000 0), (7, .ptr 1000000001 0), (8, .ptr 1000000002 0)], [(42, aC.shs), (153, aN.shs), (42, [.str, .str, .int .i64, .bool, .int .i64, .int .i64, .str, .int .i64, .row 50208 aG.ks 128 32])], []⟩)]),
 (21, [(19, ⟨[(0, .sl [.int .u8]), (2, .ptr 1000000000 0), (4, .ptr 1000000001 0), (5, .ptr 1000000002 0)], [(46, aI.shs), (85, aH.shs), (46, [.str, .str, .bool, .int .i64, .int .i64, .int .i64, .int .i64, .row 50207 aK.ks 72 32, .row 50208 aC.ks 42 112, .int .i64, .row 50210 aE.ks 78 128, .row 50211 [.int .i64] 3 8, .int .i64, .row 50213 [.int .i64] 3 8, .bool, .int .i64, .str, .str, .int .i64, .bool, .int .i64, .int .i64, .str, .int .i64, .row 50224 aG.ks 128 32])], []⟩), (21, ⟨[(2, .ptr 1000000000 0), (4, .ptr 1000000001 0), (5, .ptr 1000000002 0)], [(46, aI.shs), (85, aH.shs), (46, [.str, .str, .bool, .int .i64, .int .i64, .int .i64, .int .i64, .row 50207 aK.ks 72 32, .row 50208 aC.ks 42 112, .int .i64, .row 50210 aE.ks 78 128, .row 50211 [.int .i64] 3 8, .int .i64, .row 50213 [.int .i64] 3 8, .bool, .int .i64, .str, .str, .int .i64, .bool, .int .i64, .int .i64, .str, .int .i64, .row 50224 aG.ks 128 32])], []⟩)]),
 (12, [(5, ⟨[], [], []⟩)]),
 (33, [(3, ⟨[(0, .str)], [], []⟩)]),
 (71, [(3, ⟨[(1, .ptr 1000000000 0)], [(46, aI.shs)], []⟩), (5, ⟨[(1, .ptr 1000000000 0)], [(46, aI.shs)], []⟩)]),
 (151, [(9, ⟨[(3, .row 3003 [.str] 9 16), (4, .int .i64)], [], []⟩)]),
 (150, [(7, ⟨[(5, .str), (6, .int .i64)], [], []⟩), (9, ⟨[(5, .str), (6, .int .i64)], [], []⟩)]),
 (149, [(3, ⟨[(0, .str)], [], []⟩)]),
 (106, [(7, ⟨[(1, .ptr 1000000000 0)], [(42, aC.shs)], []⟩), (9, ⟨[(1, .ptr 1000000000 0)], [(42, aC.shs)], []⟩), (11, ⟨[(1, .ptr 1000000000 0)], [(42, aC.shs)], []⟩)]),
 (113, [(4, ⟨[(5, .ptr 1000000000 0)], [(78, aE.shs)], []⟩)]),
 (74, [(3, ⟨[(1, .ptr 1000000000 0)], [(37, aO.shs)], []⟩)]),
 (67, [(3, ⟨[(2, .ptr 1000000000 0), (3, .ptr 1000000001 0)], [(37, aO.shs), (37, aO.shs)], []⟩)]),
 (6, [(11, ⟨[(1, .int .u16), (5, .sl [.int .u8]), (7, .ptr 1000000000 0)], [(46, [.str, .str, .bool, .int .i64, .int .i64, .int .i64, .int .i64, .row 50007 aK.ks 72 32, .row 50008 aC.ks 42 112, .int .i64, .row 50010 aE.ks 78 128, .row 50011 [.int .i64] 3 8, .int .i64, .row 50013 [.int .i64] 3 8, .bool, .int .i64, .str, .str, .int .i64, .bool, .int .i64, .int .i64, .str, .int .i64, .row 50024 aG.ks 128 32])], []⟩)])]
def eqL : List (Nat × List CK) := [(24, [.str, .int .i64, .int .i64]), (128, [.str, .str])]
def prL : List (Nat × Prim) := [(179, .indexByte), (183, .countByte)]
def lbL : List (Nat × LibK) := [(80, .insert aA.ks 24 32)]
def SE : Env := { fn := assoc fnL, ty := assoc tyL, tm := assoc tmL, mv := fun f => match assoc mvL f with | some b => b | none => false, eqt := assoc eqL, pv := fun _ => none, hl := fun f r => match assoc hlL f with | some l => assoc l r | none => none, hr := fun f r => match assoc hrL f with | some l => assoc l r | none => none, prim := assoc prL, lib := assoc lbL, na := fun f => match assoc naL f with | some l => l | none => [] }
def brokerlaw43_light_out : (Bool) → Out := fun r => .ret [.d (.bool r)] [] []
theorem brokerlaw43_light_inj : ∀ y z, brokerlaw43_light_out y = brokerlaw43_light_out z → y = z := fun y z h => congrArg (fun o => dU (avD (bJ 0 (Out.res o)))) h
def mD : (Str) → Out := fun r => .ret [.d (.str r)] [] []
theorem abh : ∀ y z, mD y = mD z → y = z := fun y z h => congrArg (fun o => bL (avD (bJ 0 (Out.res o)))) h
def cM : (Int × Bool) → Out := fun r => .ret [.d (.int .i64 r.1), .d (.bool r.2)] [] []
theorem qX : ∀ y z, cM y = cM z → y = z := fun y z h => Prod.ext (congrArg (fun o => aX (avD (bJ 0 (Out.res o)))) h) (congrArg (fun o => dU (avD (bJ 1 (Out.res o)))) h)
def aU : ((List aA)) → Out := fun r => .ret [.row 0] [] [⟨aA.ks, 24, 32, (List.map aA.enc r)⟩]
theorem bN : ∀ y z, aU y = aU z → y = z := fun y z h => map_inj aA.inj (congrArg (fun o => oB 0 (Out.rws o)) h)
def dJ : ((List aA) × aA × Int) → Out := fun r => .ret [.row 0, aA.av r.2.1, .d (.int .i64 r.2.2)] [] [⟨aA.ks, 24, 32, (List.map aA.enc r.1)⟩]
theorem rH : ∀ y z, dJ y = dJ z → y = z := fun y z h => Prod.ext (map_inj aA.inj (congrArg (fun o => oB 0 (Out.rws o)) h)) (Prod.ext (aA.inj (congrArg (fun o => List.map avD (cellsOf (bJ 1 (Out.res o)))) h)) (congrArg (fun o => aX (avD (bJ 2 (Out.res o)))) h))
def aB : (Int) → Out := fun r => .ret [.d (.int .i64 r)] [] []
theorem aM : ∀ y z, aB y = aB z → y = z := fun y z h => congrArg (fun o => aX (avD (bJ 0 (Out.res o)))) h
def dX : (Str × Bool) → Out := fun r => .ret [.d (.str r.1), .d (.bool r.2)] [] []
theorem xV : ∀ y z, dX y = dX z → y = z := fun y z h => Prod.ext (congrArg (fun o => bL (avD (bJ 0 (Out.res o)))) h) (congrArg (fun o => dU (avD (bJ 1 (Out.res o)))) h)
def cH : (Str × Str × Bool) → Out := fun r => .ret [.d (.str r.1), .d (.str r.2.1), .d (.bool r.2.2)] [] []
theorem o7 : ∀ y z, cH y = cH z → y = z := fun y z h => Prod.ext (congrArg (fun o => bL (avD (bJ 0 (Out.res o)))) h) (Prod.ext (congrArg (fun o => bL (avD (bJ 1 (Out.res o)))) h) (congrArg (fun o => dU (avD (bJ 2 (Out.res o)))) h))
def cR : ((List Str)) → Out := fun r => .ret [.d (.sl [.str] (List.map cU r))] [] []
theorem wK : ∀ y z, cR y = cR z → y = z := fun y z h => map_inj aqv (congrArg (fun o => dSl (avD (bJ 0 (Out.res o)))) h)
def j8 : (Bool × aK) → Out := fun r => .ret [.d (.bool r.1)] [⟨72, (aK.avs r.2)⟩] []
theorem afU : ∀ y z, j8 y = j8 z → y = z := fun y z h => Prod.ext (congrArg (fun o => dU (avD (bJ 0 (Out.res o)))) h) (aK.inj (congrArg (fun o => List.map avD (tA 0 (Out.bxs o))) h))
def mR : (Bool × Int) → Out := fun r => .ret [.d (.bool r.1)] [⟨3, [.d (.int .i64 r.2)]⟩] []
theorem aia : ∀ y z, mR y = mR z → y = z := fun y z h => Prod.ext (congrArg (fun o => dU (avD (bJ 0 (Out.res o)))) h) (congrArg (fun o => aX (avD (bJ 0 (tA 0 (Out.bxs o))))) h)
def cZ : (Int × Int) → Out := fun r => .ret [.d (.int .i64 r.1)] [⟨3, [.d (.int .i64 r.2)]⟩] []
theorem uJ : ∀ y z, cZ y = cZ z → y = z := fun y z h => Prod.ext (congrArg (fun o => aX (avD (bJ 0 (Out.res o)))) h) (congrArg (fun o => aX (avD (bJ 0 (tA 0 (Out.bxs o))))) h)
def aT : ((List Int)) → Out := fun r => .ret [.row 0] [] [⟨[.int .u8], 5, 1, (List.map (encI .u8) r)⟩]
theorem bA : ∀ y z, aT y = aT z → y = z := fun y z h => map_inj (wD _) (congrArg (fun o => oB 0 (Out.rws o)) h)
def lV : (Int) → Out := fun r => .ret [.d (.int .u64 r)] [] []
theorem ahN : ∀ y z, lV y = lV z → y = z := fun y z h => congrArg (fun o => aX (avD (bJ 0 (Out.res o)))) h
def dP : ((List Int) × Int) → Out := fun r => .ret [.row 0, .d (.int .i64 r.2)] [] [⟨[.int .u8], 5, 1, (List.map (encI .u8) r.1)⟩]
theorem lE : ∀ y z, dP y = dP z → y = z := fun y z h => Prod.ext (map_inj (wD _) (congrArg (fun o => oB 0 (Out.rws o)) h)) (congrArg (fun o => aX (avD (bJ 1 (Out.res o)))) h)
def cW : (Int × Int × Int) → Out := fun r => .ret [.d (.int .i64 r.1), .d (.int .i64 r.2.1), .d (.int .i64 r.2.2)] [] []
theorem sP : ∀ y z, cW y = cW z → y = z := fun y z h => Prod.ext (congrArg (fun o => aX (avD (bJ 0 (Out.res o)))) h) (Prod.ext (congrArg (fun o => aX (avD (bJ 1 (Out.res o)))) h) (congrArg (fun o => aX (avD (bJ 2 (Out.res o)))) h))
def gK : (Str × Int × Int) → Out := fun r => .ret [.d (.str r.1), .d (.int .i64 r.2.1), .d (.int .i64 r.2.2)] [] []
theorem ac4 : ∀ y z, gK y = gK z → y = z := fun y z h => Prod.ext (congrArg (fun o => bL (avD (bJ 0 (Out.res o)))) h) (Prod.ext (congrArg (fun o => aX (avD (bJ 1 (Out.res o)))) h) (congrArg (fun o => aX (avD (bJ 2 (Out.res o)))) h))
def eZ : (Str × aH) → Out := fun r => .ret [.d (.str r.1)] [⟨85, (aH.avs r.2)⟩] []
theorem rA : ∀ y z, eZ y = eZ z → y = z := fun y z h => Prod.ext (congrArg (fun o => bL (avD (bJ 0 (Out.res o)))) h) (aH.inj (congrArg (fun o => List.map avD (tA 0 (Out.bxs o))) h))
def bZ : (Int × aH) → Out := fun r => .ret [.d (.int .i64 r.1)] [⟨85, (aH.avs r.2)⟩] []
theorem cN : ∀ y z, bZ y = bZ z → y = z := fun y z h => Prod.ext (congrArg (fun o => aX (avD (bJ 0 (Out.res o)))) h) (aH.inj (congrArg (fun o => List.map avD (tA 0 (Out.bxs o))) h))
def eY : (Bool × aH) → Out := fun r => .ret [.d (.bool r.1)] [⟨85, (aH.avs r.2)⟩] []
theorem w4 : ∀ y z, eY y = eY z → y = z := fun y z h => Prod.ext (congrArg (fun o => dU (avD (bJ 0 (Out.res o)))) h) (aH.inj (congrArg (fun o => List.map avD (tA 0 (Out.bxs o))) h))
def iR : (aK × aH) → Out := fun r => .ret [aK.av r.1] [⟨85, (aH.avs r.2)⟩] []
theorem adx : ∀ y z, iR y = iR z → y = z := fun y z h => Prod.ext (aK.inj (congrArg (fun o => List.map avD (cellsOf (bJ 0 (Out.res o)))) h)) (aH.inj (congrArg (fun o => List.map avD (tA 0 (Out.bxs o))) h))
def fW : ((List aK) × aH) → Out := fun r => .ret [.row 0] [⟨85, (aH.avs r.2)⟩] [⟨aK.ks, 72, 32, (List.map aK.enc r.1)⟩]
theorem adA : ∀ y z, fW y = fW z → y = z := fun y z h => Prod.ext (map_inj aK.inj (congrArg (fun o => oB 0 (Out.rws o)) h)) (aH.inj (congrArg (fun o => List.map avD (tA 0 (Out.bxs o))) h))
def hX : (Str × aN) → Out := fun r => .ret [.d (.str r.1)] [⟨153, (aN.avs r.2)⟩] []
theorem j2 : ∀ y z, hX y = hX z → y = z := fun y z h => Prod.ext (congrArg (fun o => bL (avD (bJ 0 (Out.res o)))) h) (aN.inj (congrArg (fun o => List.map avD (tA 0 (Out.bxs o))) h))
def iU : (Int × aN) → Out := fun r => .ret [.d (.int .i64 r.1)] [⟨153, (aN.avs r.2)⟩] []
theorem iS : ∀ y z, iU y = iU z → y = z := fun y z h => Prod.ext (congrArg (fun o => aX (avD (bJ 0 (Out.res o)))) h) (aN.inj (congrArg (fun o => List.map avD (tA 0 (Out.bxs o))) h))
def hU : (aN) → Out := fun r => .ret [] [⟨153, (aN.avs r)⟩] []
theorem rE : ∀ y z, hU y = hU z → y = z := fun y z h => aN.inj (congrArg (fun o => List.map avD (tA 0 (Out.bxs o))) h)
def gR : (aC × Int × Int) → Out := fun r => .ret [.agg [.d (.str r.1.Topic), .d (.str r.1.Payload), .d (.int .i64 r.1.Level), .d (.bool r.1.Retain), .d (.int .i64 r.1.Priority), .d (.int .i64 r.1.Expires), .d (.str r.1.From), .d (.int .i64 r.1.Seq), .row 0], .d (.int .i64 r.2.1), .d (.int .i64 r.2.2)] [] [⟨aG.ks, 128, 32, (List.map aG.enc r.1.Props)⟩]
theorem akJ : ∀ y z, gR y = gR z → y = z := fun y z h => Prod.ext (aC.inj (congrArg (fun o => [avD (bJ 0 (cellsOf (bJ 0 (Out.res o)))), avD (bJ 1 (cellsOf (bJ 0 (Out.res o)))), avD (bJ 2 (cellsOf (bJ 0 (Out.res o)))), avD (bJ 3 (cellsOf (bJ 0 (Out.res o)))), avD (bJ 4 (cellsOf (bJ 0 (Out.res o)))), avD (bJ 5 (cellsOf (bJ 0 (Out.res o)))), avD (bJ 6 (cellsOf (bJ 0 (Out.res o)))), avD (bJ 7 (cellsOf (bJ 0 (Out.res o)))), D.sl aG.ks (oB 0 (Out.rws o))]) h)) (Prod.ext (congrArg (fun o => aX (avD (bJ 1 (Out.res o)))) h) (congrArg (fun o => aX (avD (bJ 2 (Out.res o)))) h))
def dL : (aC × aH) → Out := fun r => .ret [.agg [.d (.str r.1.Topic), .d (.str r.1.Payload), .d (.int .i64 r.1.Level), .d (.bool r.1.Retain), .d (.int .i64 r.1.Priority), .d (.int .i64 r.1.Expires), .d (.str r.1.From), .d (.int .i64 r.1.Seq), .row 0]] [⟨85, (aH.avs r.2)⟩] [⟨aG.ks, 128, 32, (List.map aG.enc r.1.Props)⟩]
theorem oY : ∀ y z, dL y = dL z → y = z := fun y z h => Prod.ext (aC.inj (congrArg (fun o => [avD (bJ 0 (cellsOf (bJ 0 (Out.res o)))), avD (bJ 1 (cellsOf (bJ 0 (Out.res o)))), avD (bJ 2 (cellsOf (bJ 0 (Out.res o)))), avD (bJ 3 (cellsOf (bJ 0 (Out.res o)))), avD (bJ 4 (cellsOf (bJ 0 (Out.res o)))), avD (bJ 5 (cellsOf (bJ 0 (Out.res o)))), avD (bJ 6 (cellsOf (bJ 0 (Out.res o)))), avD (bJ 7 (cellsOf (bJ 0 (Out.res o)))), D.sl aG.ks (oB 0 (Out.rws o))]) h)) (aH.inj (congrArg (fun o => List.map avD (tA 0 (Out.bxs o))) h))
def fA : ((List aC) × aH) → Out := fun r => .ret [.row 0] [⟨85, (aH.avs r.2)⟩] [⟨aC.ks, 42, 112, (List.map aC.enc r.1)⟩]
theorem abR : ∀ y z, fA y = fA z → y = z := fun y z h => Prod.ext (map_inj aC.inj (congrArg (fun o => oB 0 (Out.rws o)) h)) (aH.inj (congrArg (fun o => List.map avD (tA 0 (Out.bxs o))) h))
def gH : (aE × aH) → Out := fun r => .ret [.agg [.d (.int .i64 r.1.ID), .d (.int .i64 r.1.State), .d (.str r.1.Message.Topic), .d (.str r.1.Message.Payload), .d (.int .i64 r.1.Message.Level), .d (.bool r.1.Message.Retain), .d (.int .i64 r.1.Message.Priority), .d (.int .i64 r.1.Message.Expires), .d (.str r.1.Message.From), .d (.int .i64 r.1.Message.Seq), .row 0]] [⟨85, (aH.avs r.2)⟩] [⟨aG.ks, 128, 32, (List.map aG.enc r.1.Message.Props)⟩]
theorem ab1 : ∀ y z, gH y = gH z → y = z := fun y z h => Prod.ext (aE.inj (congrArg (fun o => [avD (bJ 0 (cellsOf (bJ 0 (Out.res o)))), avD (bJ 1 (cellsOf (bJ 0 (Out.res o)))), avD (bJ 2 (cellsOf (bJ 0 (Out.res o)))), avD (bJ 3 (cellsOf (bJ 0 (Out.res o)))), avD (bJ 4 (cellsOf (bJ 0 (Out.res o)))), avD (bJ 5 (cellsOf (bJ 0 (Out.res o)))), avD (bJ 6 (cellsOf (bJ 0 (Out.res o)))), avD (bJ 7 (cellsOf (bJ 0 (Out.res o)))), avD (bJ 8 (cellsOf (bJ 0 (Out.res o)))), avD (bJ 9 (cellsOf (bJ 0 (Out.res o)))), D.sl aG.ks (oB 0 (Out.rws o))]) h)) (aH.inj (congrArg (fun o => List.map avD (tA 0 (Out.bxs o))) h))
def fG : ((List aE) × aH) → Out := fun r => .ret [.row 0] [⟨85, (aH.avs r.2)⟩] [⟨aE.ks, 78, 128, (List.map aE.enc r.1)⟩]
theorem ab9 : ∀ y z, fG y = fG z → y = z := fun y z h => Prod.ext (map_inj aE.inj (congrArg (fun o => oB 0 (Out.rws o)) h)) (aH.inj (congrArg (fun o => List.map avD (tA 0 (Out.bxs o))) h))
def jJ : ((List Int) × aH) → Out := fun r => .ret [.row 0] [⟨85, (aH.avs r.2)⟩] [⟨[.int .i64], 3, 8, (List.map (encI .i64) r.1)⟩]
theorem aaV : ∀ y z, jJ y = jJ z → y = z := fun y z h => Prod.ext (map_inj (wD _) (congrArg (fun o => oB 0 (Out.rws o)) h)) (aH.inj (congrArg (fun o => List.map avD (tA 0 (Out.bxs o))) h))
def dZ : (aI × Int) → Out := fun r => .ret [.agg [.d (.str r.1.Client), .d (.str r.1.User), .d (.bool r.1.Online), .d (.int .i64 r.1.Conn), .d (.int .i64 r.1.Expiry), .d (.int .i64 r.1.Until), .d (.int .i64 r.1.Dropped), .row 0, .row 1, .d (.int .i64 r.1.Out.Limit), .row 2, .row 3, .d (.int .i64 r.1.Out.Pool.Last), .row 4, .d (.bool r.1.Will.Set), .d (.int .i64 r.1.Will.Delay), .d (.str r.1.Will.Message.Topic), .d (.str r.1.Will.Message.Payload), .d (.int .i64 r.1.Will.Message.Level), .d (.bool r.1.Will.Message.Retain), .d (.int .i64 r.1.Will.Message.Priority), .d (.int .i64 r.1.Will.Message.Expires), .d (.str r.1.Will.Message.From), .d (.int .i64 r.1.Will.Message.Seq), .row 5], .d (.int .i64 r.2)] [] [⟨aK.ks, 72, 32, (List.map aK.enc r.1.Subs)⟩, ⟨aC.ks, 42, 112, (List.map aC.enc r.1.Queue)⟩, ⟨aE.ks, 78, 128, (List.map aE.enc r.1.Out.Items)⟩, ⟨[.int .i64], 3, 8, (List.map (encI .i64) r.1.Out.Pool.Used)⟩, ⟨[.int .i64], 3, 8, (List.map (encI .i64) r.1.In.IDs)⟩, ⟨aG.ks, 128, 32, (List.map aG.enc r.1.Will.Message.Props)⟩]
theorem nO : ∀ y z, dZ y = dZ z → y = z := fun y z h => Prod.ext (aI.inj (congrArg (fun o => [avD (bJ 0 (cellsOf (bJ 0 (Out.res o)))), avD (bJ 1 (cellsOf (bJ 0 (Out.res o)))), avD (bJ 2 (cellsOf (bJ 0 (Out.res o)))), avD (bJ 3 (cellsOf (bJ 0 (Out.res o)))), avD (bJ 4 (cellsOf (bJ 0 (Out.res o)))), avD (bJ 5 (cellsOf (bJ 0 (Out.res o)))), avD (bJ 6 (cellsOf (bJ 0 (Out.res o)))), D.sl aK.ks (oB 0 (Out.rws o)), D.sl aC.ks (oB 1 (Out.rws o)), avD (bJ 9 (cellsOf (bJ 0 (Out.res o)))), D.sl aE.ks (oB 2 (Out.rws o)), D.sl [.int .i64] (oB 3 (Out.rws o)), avD (bJ 12 (cellsOf (bJ 0 (Out.res o)))), D.sl [.int .i64] (oB 4 (Out.rws o)), avD (bJ 14 (cellsOf (bJ 0 (Out.res o)))), avD (bJ 15 (cellsOf (bJ 0 (Out.res o)))), avD (bJ 16 (cellsOf (bJ 0 (Out.res o)))), avD (bJ 17 (cellsOf (bJ 0 (Out.res o)))), avD (bJ 18 (cellsOf (bJ 0 (Out.res o)))), avD (bJ 19 (cellsOf (bJ 0 (Out.res o)))), avD (bJ 20 (cellsOf (bJ 0 (Out.res o)))), avD (bJ 21 (cellsOf (bJ 0 (Out.res o)))), avD (bJ 22 (cellsOf (bJ 0 (Out.res o)))), avD (bJ 23 (cellsOf (bJ 0 (Out.res o)))), D.sl aG.ks (oB 5 (Out.rws o))]) h)) (congrArg (fun o => aX (avD (bJ 1 (Out.res o)))) h)
def eR : ((List Str)) → Out := fun r => .ret [.row 0] [] [⟨[.str], 9, 16, (List.map cU r)⟩]
theorem aam : ∀ y z, eR y = eR z → y = z := fun y z h => map_inj aqv (congrArg (fun o => oB 0 (Out.rws o)) h)
def good : FuncId → Out → Prop := fun f o => match f with | 17 => ∃ x, brokerlaw43_light_out x = o | 32 => ∃ x, brokerlaw43_light_out x = o | 78 => ∃ x, mD x = o | 77 => ∃ x, cM x = o | 79 => ∃ x, aU x = o | 80 => ∃ x, aU x = o | 26 => ∃ x, dJ x = o | 83 => ∃ x, aB x = o | 31 => ∃ x, brokerlaw43_light_out x = o | 15 => ∃ x, brokerlaw43_light_out x = o | 13 => ∃ x, aB x = o | 29 => ∃ x, aU x = o | 116 => ∃ x, brokerlaw43_light_out x = o | 86 => ∃ x, aB x = o | 158 => ∃ x, brokerlaw43_light_out x = o | 164 => ∃ x, dX x = o | 154 => ∃ x, dX x = o | 172 => ∃ x, aB x = o | 169 => ∃ x, aB x = o | 165 => ∃ x, cH x = o | 155 => ∃ x, cH x = o | 156 => ∃ x, brokerlaw43_light_out x = o | 178 => ∃ x, aB x = o | 177 => ∃ x, aB x = o | 170 => ∃ x, cR x = o | 166 => ∃ x, cR x = o | 157 => ∃ x, cR x = o | 141 => ∃ x, brokerlaw43_light_out x = o | 142 => ∃ x, brokerlaw43_light_out x = o | 139 => ∃ x, cH x = o | 140 => ∃ x, j8 x = o | 117 => ∃ x, aB x = o | 143 => ∃ x, brokerlaw43_light_out x = o | 128 => ∃ x, brokerlaw43_light_out x = o | 159 => ∃ x, brokerlaw43_light_out x = o | 144 => ∃ x, aB x = o | 118 => ∃ x, aB x = o | 87 => ∃ x, aB x = o | 119 => ∃ x, aB x = o | 171 => ∃ x, brokerlaw43_light_out x = o | 167 => ∃ x, brokerlaw43_light_out x = o | 168 => ∃ x, brokerlaw43_light_out x = o | 160 => ∃ x, cM x = o | 145 => ∃ x, brokerlaw43_light_out x = o | 162 => ∃ x, mR x = o | 161 => ∃ x, cZ x = o | 146 => ∃ x, aB x = o | 120 => ∃ x, aB x = o | 88 => ∃ x, aB x = o | 89 => ∃ x, aB x = o | 121 => ∃ x, brokerlaw43_light_out x = o | 90 => ∃ x, aB x = o | 35 => ∃ x, aB x = o | 92 => ∃ x, aT x = o | 122 => ∃ x, lV x = o | 91 => ∃ x, aT x = o | 36 => ∃ x, aT x = o | 37 => ∃ x, aT x = o | 45 => ∃ x, aB x = o | 39 => ∃ x, aT x = o | 38 => ∃ x, aT x = o | 93 => ∃ x, aB x = o | 41 => ∃ x, aT x = o | 40 => ∃ x, aT x = o | 43 => ∃ x, aT x = o | 42 => ∃ x, aT x = o | 44 => ∃ x, aT x = o | 18 => ∃ x, dP x = o | 124 => ∃ x, aB x = o | 100 => ∃ x, cW x = o | 99 => ∃ x, gK x = o | 47 => ∃ x, eZ x = o | 48 => ∃ x, bZ x = o | 56 => ∃ x, eY x = o | 50 => ∃ x, iR x = o | 49 => ∃ x, fW x = o | 125 => ∃ x, hX x = o | 126 => ∃ x, iU x = o | 127 => ∃ x, hU x = o | 101 => ∃ x, gR x = o | 52 => ∃ x, dL x = o | 51 => ∃ x, fA x = o | 54 => ∃ x, gH x = o | 53 => ∃ x, fG x = o | 55 => ∃ x, jJ x = o | 21 => ∃ x, dZ x = o | 20 => ∃ x, brokerlaw43_light_out x = o | 12 => ∃ x, brokerlaw43_light_out x = o | 84 => ∃ x, brokerlaw43_light_out x = o | 85 => ∃ x, brokerlaw43_light_out x = o | 33 => ∃ x, brokerlaw43_light_out x = o | 110 => ∃ x, brokerlaw43_light_out x = o | 71 => ∃ x, aB x = o | 152 => ∃ x, brokerlaw43_light_out x = o | 148 => ∃ x, brokerlaw43_light_out x = o | 163 => ∃ x, eR x = o | 147 => ∃ x, brokerlaw43_light_out x = o | 151 => ∃ x, brokerlaw43_light_out x = o | 150 => ∃ x, cH x = o | 133 => ∃ x, brokerlaw43_light_out x = o | 134 => ∃ x, brokerlaw43_light_out x = o | 135 => ∃ x, brokerlaw43_light_out x = o | 111 => ∃ x, aB x = o | 72 => ∃ x, aB x = o | 130 => ∃ x, brokerlaw43_light_out x = o | 149 => ∃ x, brokerlaw43_light_out x = o | 131 => ∃ x, aB x = o | 106 => ∃ x, aB x = o | 73 => ∃ x, aB x = o | 112 => ∃ x, aB x = o | 136 => ∃ x, brokerlaw43_light_out x = o | 137 => ∃ x, aB x = o | 113 => ∃ x, aB x = o | 74 => ∃ x, aB x = o | 75 => ∃ x, aB x = o | 132 => ∃ x, brokerlaw43_light_out x = o | 107 => ∃ x, brokerlaw43_light_out x = o | 76 => ∃ x, aB x = o | 70 => ∃ x, aB x = o | 24 => ∃ x, aB x = o | 65 => ∃ x, brokerlaw43_light_out x = o | 66 => ∃ x, brokerlaw43_light_out x = o | 109 => ∃ x, brokerlaw43_light_out x = o | 108 => ∃ x, brokerlaw43_light_out x = o | 67 => ∃ x, brokerlaw43_light_out x = o | 68 => ∃ x, brokerlaw43_light_out x = o | 69 => ∃ x, brokerlaw43_light_out x = o | 23 => ∃ x, brokerlaw43_light_out x = o | 25 => ∃ x, aT x = o | 6 => ∃ x, brokerlaw43_light_out x = o | _ => False
abbrev cT {R : Type} (g : FuncId) (out : R → Out) : Gm R := ajK SE good g out
noncomputable abbrev gG : Fun := zI SE good
end Te
end PX
