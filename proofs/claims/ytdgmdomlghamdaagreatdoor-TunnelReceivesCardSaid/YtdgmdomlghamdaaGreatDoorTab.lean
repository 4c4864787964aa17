import Derived.Test.YtdgmdomlghamdaaGreatDoorMod
import Derived.Test.YtdgmdomlghamdaaGreatDoorProg
set_option linter.unusedVariables false
set_option linter.unusedSimpArgs false
noncomputable section
namespace PX
open Go
open Md
namespace Te
noncomputable def tyL : List (Nat × TI) := [(3, ⟨[.int .i64], false, 8, [], 0⟩),
 (4, ⟨[.bool], false, 1, [], 0⟩),
 (5, ⟨[.int .u8], false, 1, [], 0⟩),
 (9, ⟨[.str], false, 16, [], 0⟩),
 (21, ⟨[.int .i32], false, 4, [], 0⟩),
 (23, ⟨[.int .i64, .int .i64, .int .i64, .bool], true, 32, [(0, 3), (1, 3), (2, 3), (3, 4)], 0⟩),
 (24, ⟨[.sl [.int .i64, .int .i64, .bool, .str, .str, .int .i64, .bool, .int .i64, .int .i64, .str, .int .i64, .sl [.str, .str], .str, .str, .bool, .int .i64, .int .i64, .int .i64, .bool, .int .i64, .str, .str, .int .i64, .bool, .int .i64, .int .i64, .str, .int .i64, .sl [.str, .str], .bool, .int .i64, .sl [.str, .int .i64, .bool], .sl [.str], .sl [.int .i64]]], false, 24, [], 53⟩),
 (27, ⟨[.sl [.int .u8]], false, 24, [], 5⟩),
 (28, ⟨[.int .i64], false, 8, [], 0⟩),
 (38, ⟨[.sl [.int .i64]], false, 24, [], 3⟩),
 (45, ⟨[.sl [.str, .str]], false, 24, [], 119⟩),
 (47, ⟨[.str, .str, .int .i64, .bool, .int .i64, .int .i64, .str, .int .i64, .sl [.str, .str]], true, 112, [(0, 9), (1, 9), (2, 3), (3, 4), (4, 3), (5, 3), (6, 9), (7, 3), (8, 45)], 0⟩),
 (49, ⟨[.bool, .int .i64, .str, .str, .int .i64, .bool, .int .i64, .int .i64, .str, .int .i64, .sl [.str, .str]], true, 128, [(0, 4), (1, 3), (2, 47)], 0⟩),
 (50, ⟨[.sl [.str, .int .i64, .bool]], false, 24, [], 112⟩),
 (51, ⟨[.sl [.str]], false, 24, [], 9⟩),
 (53, ⟨[.int .i64, .int .i64, .bool, .str, .str, .int .i64, .bool, .int .i64, .int .i64, .str, .int .i64, .sl [.str, .str], .str, .str, .bool, .int .i64, .int .i64, .int .i64, .bool, .int .i64, .str, .str, .int .i64, .bool, .int .i64, .int .i64, .str, .int .i64, .sl [.str, .str], .bool, .int .i64, .sl [.str, .int .i64, .bool], .sl [.str], .sl [.int .i64]], true, 416, [(0, 3), (1, 3), (2, 4), (3, 47), (12, 9), (13, 9), (14, 4), (15, 3), (16, 3), (17, 3), (18, 49), (29, 4), (30, 3), (31, 50), (32, 51), (33, 38)], 0⟩),
 (69, ⟨[.int .u64], false, 8, [], 0⟩),
 (71, ⟨[.int .u64], false, 8, [], 0⟩),
 (90, ⟨[.sl [.bool]], false, 24, [], 4⟩),
 (94, ⟨[.int .u32], false, 4, [], 0⟩),
 (98, ⟨[.int .i64], true, 8, [(0, 28)], 0⟩),
 (99, ⟨[.ptr], false, 8, [], 101⟩),
 (101, ⟨[.sl [.int .u8], .int .i64], true, 32, [(0, 27), (1, 3)], 0⟩),
 (106, ⟨[.ptr], false, 8, [], 108⟩),
 (108, ⟨[.sl [.int .u8], .int .i64, .int .i64], true, 40, [(0, 27), (1, 3), (2, 28)], 0⟩),
 (112, ⟨[.str, .int .i64, .bool], true, 32, [(0, 9), (1, 3), (2, 4)], 0⟩),
 (119, ⟨[.str, .str], true, 32, [(0, 9), (1, 9)], 0⟩),
 (130, ⟨[.int .i64, .int .i64, .int .i64, .int .i64, .int .i64, .int .i64, .int .i64, .bool, .bool, .bool, .bool, .str, .str], true, 96, [(0, 3), (1, 3), (2, 3), (3, 3), (4, 3), (5, 3), (6, 3), (7, 4), (8, 4), (9, 4), (10, 4), (11, 9), (12, 9)], 0⟩)]
noncomputable def fnL : List (Nat × Func) := [(15, Go.Proofs.Tryz.f15), (85, Go.Proofs.Tryz.f85), (87, Go.Proofs.Tryz.f87), (113, Go.Proofs.Tryz.f113), (114, Go.Proofs.Tryz.f114), (115, Go.Proofs.Tryz.f115), (116, Go.Proofs.Tryz.f116), (117, Go.Proofs.Tryz.f117), (86, Go.Proofs.Tryz.f86), (118, Go.Proofs.Tryz.f118), (139, Go.Proofs.Tryz.f139), (132, Go.Proofs.Tryz.f132), (133, Go.Proofs.Tryz.f133), (140, Go.Proofs.Tryz.f140), (134, Go.Proofs.Tryz.f134), (119, Go.Proofs.Tryz.f119), (88, Go.Proofs.Tryz.f88), (89, Go.Proofs.Tryz.f89), (91, Go.Proofs.Tryz.f91), (90, Go.Proofs.Tryz.f90), (120, Go.Proofs.Tryz.f120), (144, Go.Proofs.Tryz.f144), (145, Go.Proofs.Tryz.f145), (141, Go.Proofs.Tryz.f141), (150, Go.Proofs.Tryz.f150), (148, Go.Proofs.Tryz.f148), (146, Go.Proofs.Tryz.f146), (142, Go.Proofs.Tryz.f142), (156, Go.Proofs.Tryz.f156), (155, Go.Proofs.Tryz.f155), (149, Go.Proofs.Tryz.f149), (147, Go.Proofs.Tryz.f147), (143, Go.Proofs.Tryz.f143), (136, Go.Proofs.Tryz.f136), (137, Go.Proofs.Tryz.f137), (135, Go.Proofs.Tryz.f135), (121, Go.Proofs.Tryz.f121), (92, Go.Proofs.Tryz.f92), (93, Go.Proofs.Tryz.f93), (94, Go.Proofs.Tryz.f94), (59, Go.Proofs.Tryz.f59), (34, Go.Proofs.Tryz.f34), (65, Go.Proofs.Tryz.f65), (33, Go.Proofs.Tryz.f33), (20, Go.Proofs.Tryz.f20), (95, Go.Proofs.Tryz.f95), (61, Go.Proofs.Tryz.f61), (62, Go.Proofs.Tryz.f62), (60, Go.Proofs.Tryz.f60), (63, Go.Proofs.Tryz.f63), (64, Go.Proofs.Tryz.f64), (32, Go.Proofs.Tryz.f32), (19, Go.Proofs.Tryz.f19), (35, Go.Proofs.Tryz.f35), (21, Go.Proofs.Tryz.f21), (9, Go.Proofs.Tryz.f9), (70, Go.Proofs.Tryz.f70), (41, Go.Proofs.Tryz.f41), (40, Go.Proofs.Tryz.f40), (25, Go.Proofs.Tryz.f25), (17, Go.Proofs.Tryz.f17), (73, Go.Proofs.Tryz.f73), (72, Go.Proofs.Tryz.f72), (138, Go.Proofs.Tryz.f138), (122, Go.Proofs.Tryz.f122), (99, Go.Proofs.Tryz.f99), (123, Go.Proofs.Tryz.f123), (124, Go.Proofs.Tryz.f124), (100, Go.Proofs.Tryz.f100), (98, Go.Proofs.Tryz.f98), (101, Go.Proofs.Tryz.f101), (74, Go.Proofs.Tryz.f74), (42, Go.Proofs.Tryz.f42), (26, Go.Proofs.Tryz.f26), (18, Go.Proofs.Tryz.f18), (12, Go.Proofs.Tryz.f12), (8, Go.Proofs.Tryz.f8), (76, Go.Proofs.Tryz.f76), (44, Go.Proofs.Tryz.f44), (75, Go.Proofs.Tryz.f75), (39, Go.Proofs.Tryz.f39), (38, Go.Proofs.Tryz.f38), (23, Go.Proofs.Tryz.f23), (24, Go.Proofs.Tryz.f24), (43, Go.Proofs.Tryz.f43), (27, Go.Proofs.Tryz.f27), (45, Go.Proofs.Tryz.f45), (77, Go.Proofs.Tryz.f77), (125, Go.Proofs.Tryz.f125), (103, Go.Proofs.Tryz.f103), (126, Go.Proofs.Tryz.f126), (127, Go.Proofs.Tryz.f127), (104, Go.Proofs.Tryz.f104), (102, Go.Proofs.Tryz.f102), (105, Go.Proofs.Tryz.f105), (78, Go.Proofs.Tryz.f78), (52, Go.Proofs.Tryz.f52), (79, Go.Proofs.Tryz.f79), (47, Go.Proofs.Tryz.f47), (48, Go.Proofs.Tryz.f48), (49, Go.Proofs.Tryz.f49), (50, Go.Proofs.Tryz.f50), (51, Go.Proofs.Tryz.f51), (30, Go.Proofs.Tryz.f30), (106, Go.Proofs.Tryz.f106), (107, Go.Proofs.Tryz.f107), (80, Go.Proofs.Tryz.f80), (129, Go.Proofs.Tryz.f129), (131, Go.Proofs.Tryz.f131), (128, Go.Proofs.Tryz.f128), (108, Go.Proofs.Tryz.f108), (130, Go.Proofs.Tryz.f130), (109, Go.Proofs.Tryz.f109), (82, Go.Proofs.Tryz.f82), (81, Go.Proofs.Tryz.f81), (53, Go.Proofs.Tryz.f53), (56, Go.Proofs.Tryz.f56), (54, Go.Proofs.Tryz.f54), (55, Go.Proofs.Tryz.f55), (57, Go.Proofs.Tryz.f57), (112, Go.Proofs.Tryz.f112), (111, Go.Proofs.Tryz.f111), (110, Go.Proofs.Tryz.f110), (84, Go.Proofs.Tryz.f84), (83, Go.Proofs.Tryz.f83), (58, Go.Proofs.Tryz.f58), (31, Go.Proofs.Tryz.f31), (46, Go.Proofs.Tryz.f46), (28, Go.Proofs.Tryz.f28), (29, Go.Proofs.Tryz.f29), (13, Go.Proofs.Tryz.f13), (14, Go.Proofs.Tryz.f14), (4, Go.Proofs.Tryz.f4)]
noncomputable def tmL : List (Nat × (List Sh × List (TypeId × List Sh))) := [(15, ([aJ.sh], [])),
 (85, ([.bool], [])),
 (87, ([aA.sh], [])),
 (113, ([cJ.sh], [])),
 (114, ([.bool], [])),
 (115, ([.bool], [])),
 (116, ([.bool], [])),
 (117, ([.bool], [])),
 (86, ([.bool], [])),
 (118, ([.bool], [])),
 (139, ([.bool], [])),
 (132, ([.bool], [])),
 (133, ([.bool], [])),
 (140, ([.bool], [])),
 (134, ([.int .i64], [])),
 (119, ([.int .i64], [])),
 (88, ([.int .i64], [])),
 (89, ([.bool], [])),
 (91, ([.int .i64], [])),
 (90, ([.int .i64], [])),
 (120, ([.int .i64], [])),
 (144, ([.bool], [])),
 (145, ([.str, .bool], [])),
 (141, ([.str, .bool], [])),
 (150, ([.int .i64], [])),
 (148, ([.int .i64], [])),
 (146, ([.str, .str, .bool], [])),
 (142, ([.str, .str, .bool], [])),
 (156, ([.int .i64], [])),
 (155, ([.int .i64], [])),
 (149, ([.sl [.str]], [])),
 (147, ([.sl [.str]], [])),
 (143, ([.sl [.str]], [])),
 (136, ([.bool], [])),
 (137, ([.bool], [])),
 (135, ([.str, .str, .bool], [])),
 (121, ([.bool, .bool], [])),
 (92, ([.int .i64], [])),
 (93, ([.int .i64], [])),
 (94, ([.int .i64], [])),
 (59, ([.int .i64], [])),
 (34, ([.row 0 [.int .u8] 5 1], [])),
 (65, ([.int .u64], [])),
 (33, ([.row 0 [.int .u8] 5 1], [])),
 (20, ([.row 0 [.int .u8] 5 1], [])),
 (95, ([.row 0 [.int .u8] 5 1], [])),
 (61, ([.int .i64], [])),
 (62, ([.row 0 [.int .u8] 5 1], [])),
 (60, ([.row 0 [.int .u8] 5 1], [])),
 (63, ([.row 0 [.int .u8] 5 1], [])),
 (64, ([.row 0 [.int .u8] 5 1], [])),
 (32, ([.row 0 [.int .u8] 5 1, .int .i64], [])),
 (19, ([.row 0 [.int .u8] 5 1, .int .i64], [])),
 (35, ([.int .i64], [])),
 (21, ([.row 0 [.int .u8] 5 1], [])),
 (9, ([.row 0 [.int .u8] 5 1, aJ.sh, .int .i64], [])),
 (70, ([.int .i64], [])),
 (41, ([.int .i64, .int .i64, .int .i64], [])),
 (40, ([.row 0 [.int .u8] 5 1, .int .i64, .int .i64], [])),
 (25, ([.int .i64, .int .i64, .sl [.int .u8], .int .i64], [])),
 (17, ([.int .i64, .int .i64, .int .i64], [])),
 (73, ([], [])),
 (72, ([.int .i64], [(101, aI.shs)])),
 (138, ([.str, .int .i64, .int .i64], [])),
 (122, ([.str], [(101, aI.shs)])),
 (99, ([.int .i64], [(101, aI.shs)])),
 (123, ([.bool], [])),
 (124, ([.int .i64], [(101, aI.shs)])),
 (100, ([.agg [.str, .str, .int .i64, .bool, .int .i64, .int .i64, .str, .int .i64, .row 0 aE.ks 119 32]], [(101, aI.shs)])),
 (98, ([.agg [.int .i64, .int .i64, .bool, .str, .str, .int .i64, .bool, .int .i64, .int .i64, .str, .int .i64, .row 0 aE.ks 119 32, .str, .str, .bool, .int .i64, .int .i64, .int .i64, .bool, .int .i64, .str, .str, .int .i64, .bool, .int .i64, .int .i64, .str, .int .i64, .row 1 aE.ks 119 32, .bool, .int .i64, .row 2 aG.ks 112 32, .row 3 [.str] 9 16, .row 4 [.int .i64] 3 8]], [(101, aI.shs)])),
 (101, ([.agg [.int .i64, .int .i64, .bool, .str, .str, .int .i64, .bool, .int .i64, .int .i64, .str, .int .i64, .sl aE.ks, .str, .str, .bool, .int .i64, .int .i64, .int .i64, .bool, .int .i64, .str, .str, .int .i64, .bool, .int .i64, .int .i64, .str, .int .i64, .sl aE.ks, .bool, .int .i64, .row 0 aG.ks 112 32, .row 1 [.str] 9 16, .row 2 [.int .i64] 3 8]], [(101, aI.shs)])),
 (74, ([.agg [.int .i64, .int .i64, .bool, .str, .str, .int .i64, .bool, .int .i64, .int .i64, .str, .int .i64, .sl aE.ks, .str, .str, .bool, .int .i64, .int .i64, .int .i64, .bool, .int .i64, .str, .str, .int .i64, .bool, .int .i64, .int .i64, .str, .int .i64, .sl aE.ks, .bool, .int .i64, .row 0 aG.ks 112 32, .row 1 [.str] 9 16, .row 2 [.int .i64] 3 8]], [(101, aI.shs)])),
 (42, ([.agg [.int .i64, .int .i64, .bool, .str, .str, .int .i64, .bool, .int .i64, .int .i64, .str, .int .i64, .sl aE.ks, .str, .str, .bool, .int .i64, .int .i64, .int .i64, .bool, .int .i64, .str, .str, .int .i64, .bool, .int .i64, .int .i64, .str, .int .i64, .sl aE.ks, .bool, .int .i64, .row 0 aG.ks 112 32, .row 1 [.str] 9 16, .row 2 [.int .i64] 3 8], .int .i64], [])),
 (26, ([.row 0 aA.ks 53 416, .int .i64], [])),
 (18, ([aJ.sh], [])),
 (12, ([.row 0 aA.ks 53 416, aJ.sh, .int .i64], [])),
 (8, ([.bool], [])),
 (76, ([.int .i64], [])),
 (44, ([.int .i64, .int .i64, .int .i64], [])),
 (75, ([.int .i64, .int .i64, .int .i64], [])),
 (39, ([.int .i64], [])),
 (38, ([.int .u64], [])),
 (23, ([.row 0 [.int .u8] 5 1], [])),
 (24, ([.row 0 [.int .u8] 5 1], [])),
 (43, ([.row 0 [.int .u8] 5 1, .int .i64, .int .i64], [])),
 (27, ([.int .i64, .int .i64, .sl [.int .u8], .int .i64], [])),
 (45, ([.str, .int .i64, .int .i64], [])),
 (77, ([.int .i64], [(108, aC.shs)])),
 (125, ([.str], [(108, aC.shs)])),
 (103, ([.int .i64], [(108, aC.shs)])),
 (126, ([.bool], [])),
 (127, ([.int .i64], [(108, aC.shs)])),
 (104, ([.agg [.str, .str, .int .i64, .bool, .int .i64, .int .i64, .str, .int .i64, .row 0 aE.ks 119 32]], [(108, aC.shs)])),
 (102, ([aA.sh], [(108, aC.shs)])),
 (105, ([.agg [.int .i64, .int .i64, .bool, .str, .str, .int .i64, .bool, .int .i64, .int .i64, .str, .int .i64, .sl aE.ks, .str, .str, .bool, .int .i64, .int .i64, .int .i64, .bool, .int .i64, .str, .str, .int .i64, .bool, .int .i64, .int .i64, .str, .int .i64, .sl aE.ks, .bool, .int .i64, .row 0 aG.ks 112 32, .row 1 [.str] 9 16, .row 2 [.int .i64] 3 8]], [(108, aC.shs)])),
 (78, ([aA.sh], [(108, aC.shs)])),
 (52, ([aA.sh], [])),
 (79, ([.bool], [])),
 (47, ([.bool], [])),
 (48, ([.bool], [])),
 (49, ([.bool], [])),
 (50, ([.bool], [])),
 (51, ([.bool], [])),
 (30, ([.bool], [])),
 (106, ([.bool], [])),
 (107, ([.bool], [])),
 (80, ([.bool], [])),
 (129, ([.bool], [])),
 (131, ([.row 0 [.str] 9 16], [])),
 (128, ([.bool], [])),
 (108, ([.bool], [])),
 (130, ([.bool], [])),
 (109, ([.int .i64], [])),
 (82, ([.int .i64], [])),
 (81, ([.int .i64], [])),
 (53, ([.int .i64], [])),
 (56, ([.int .i64], [])),
 (54, ([.int .i64], [])),
 (55, ([.bool], [])),
 (57, ([.int .i64], [])),
 (112, ([.bool], [])),
 (111, ([.bool], [])),
 (110, ([.str, .str, .bool], [])),
 (84, ([.bool], [])),
 (83, ([.int .i64], [])),
 (58, ([.int .i64], [])),
 (31, ([.int .i64], [])),
 (46, ([aA.sh, .int .i64], [])),
 (28, ([.row 0 aA.ks 53 416, .int .i64], [])),
 (29, ([aJ.sh], [])),
 (13, ([.row 0 aA.ks 53 416, aJ.sh, .int .i64], [])),
 (14, ([.bool], [])),
 (4, ([.bool], []))]
noncomputable def mvL : List (Nat × Bool) := [(33, true), (101, true)]
noncomputable def naL : List (Nat × List (List (Option (List CK × TypeId × Nat)))) := [(33, [[some ([.int .u8], 5, 1)], []]), (101, [[], [none, none, none, none, none, none, none, none, none, none, none, none, none, none, none, none, none, none, none, none, none, none, none, none, none, none, none, none, none, none, none, some (aG.ks, 112, 32), some ([.str], 9, 16), some ([.int .i64], 3, 8)]])]
noncomputable def hlL : List (Nat × List (Nat × Hint)) := [(114, [(4, ⟨[(3, .ptr 1000000000 0), (71, .sl aE.ks), (72, .int .i64), (73, .int .i64)], [(47, aF.shs)], []⟩)]),
 (115, [(4, ⟨[(1, .sl aG.ks), (12, .sl aG.ks), (13, .int .i64), (14, .int .i64)], [], []⟩)]),
 (116, [(4, ⟨[(1, .sl [.str]), (12, .sl [.str]), (13, .int .i64), (14, .int .i64)], [], []⟩)]),
 (117, [(4, ⟨[(1, .sl [.int .i64]), (12, .sl [.int .i64]), (13, .int .i64), (14, .int .i64)], [], []⟩)]),
 (118, [(4, ⟨[(15, .it 4000)], [], []⟩)]),
 (139, [(5, ⟨[(3, .int .i64), (15, .it 4000)], [], []⟩)]),
 (132, [(4, ⟨[(9, .it 4000)], [], []⟩)]),
 (140, [(4, ⟨[(0, .str), (3, .int .i64)], [], []⟩)]),
 (134, [(4, ⟨[(0, .sl aE.ks), (8, .sl aE.ks), (9, .int .i64), (10, .int .i64)], [], []⟩)]),
 (155, [(6, ⟨[(0, .str), (1, .str), (5, .int .i64)], [], []⟩)]),
 (149, [(11, ⟨[(0, .str), (1, .str), (2, .int .i64), (3, .int .i64), (9, .row 3009 [.str] 9 16), (10, .int .i64)], [], []⟩)]),
 (136, [(6, ⟨[(3, .sl [.str]), (4, .bool), (15, .sl [.str]), (16, .int .i64), (17, .int .i64)], [], []⟩), (9, ⟨[(3, .sl [.str]), (4, .bool), (5, .int .i64), (6, .str), (15, .sl [.str]), (16, .int .i64), (17, .int .i64), (23, .it 4000)], [], []⟩)]),
 (92, [(5, ⟨[(18, .sl aG.ks), (19, .int .i64), (20, .int .i64)], [], []⟩)]),
 (93, [(5, ⟨[(16, .sl [.int .i64]), (17, .int .i64), (18, .int .i64)], [], []⟩)]),
 (94, [(5, ⟨[(18, .sl [.str]), (19, .int .i64), (20, .int .i64)], [], []⟩)]),
 (33, [(2, ⟨[(0, .row 3000 [.int .u8] 5 1), (5, .int .u64)], [], []⟩)]),
 (61, [(3, ⟨[(0, .sl [.bool]), (3, .int .i64), (4, .int .i64)], [], []⟩)]),
 (62, [(8, ⟨[(5, .row 3005 [.int .u8] 5 1), (45, .sl aE.ks), (46, .int .i64), (47, .int .i64)], [], []⟩)]),
 (60, [(4, ⟨[(3, .ptr 1000000000 0), (5, .row 3005 [.int .u8] 5 1), (30, .row 3030 [.int .i64] 3 8), (31, .int .i64), (32, .int .i64)], [(53, aA.shs)], []⟩)]),
 (63, [(3, ⟨[(5, .row 3005 [.int .u8] 5 1), (12, .sl aG.ks), (13, .int .i64), (14, .int .i64)], [], []⟩)]),
 (64, [(3, ⟨[(5, .row 3005 [.int .u8] 5 1), (13, .sl [.str]), (14, .int .i64), (15, .int .i64)], [], []⟩)]),
 (32, [(24, ⟨[(5, .row 3005 [.int .u8] 5 1), (79, .sl [.int .i64]), (80, .int .i64), (81, .int .i64)], [], []⟩)]),
 (19, [(3, ⟨[(4, .row 3004 [.int .u8] 5 1), (9, .sl aA.ks), (10, .int .i64), (11, .int .i64)], [], []⟩)]),
 (35, [(3, ⟨[(3, .int .u32), (6, .sl [.int .u8]), (7, .int .i64), (8, .int .i64)], [], []⟩)]),
 (41, [(6, ⟨[(0, .sl [.int .u8]), (1, .int .i64), (7, .int .u64), (8, .int .i64)], [], []⟩)]),
 (100, [(11, ⟨[(0, .ptr 2000000000 0), (2, .ptr 1000000000 0), (3, .ptr 1000000001 0), (32, .int .i64), (33, .int .i64)], [(47, aF.shs), (47, [.str, .str, .int .i64, .bool, .int .i64, .int .i64, .str, .int .i64, .row 50108 aE.ks 119 32])], [(101, aI.shs)]⟩)]),
 (101, [(3, ⟨[(0, .ptr 2000000000 0), (4, .ptr 1000000000 0), (5, .ptr 1000000001 0), (9, .int .i64), (10, .int .i64)], [(53, aA.shs), (53, [.int .i64, .int .i64, .bool, .str, .str, .int .i64, .bool, .int .i64, .int .i64, .str, .int .i64, .sl aE.ks, .str, .str, .bool, .int .i64, .int .i64, .int .i64, .bool, .int .i64, .str, .str, .int .i64, .bool, .int .i64, .int .i64, .str, .int .i64, .sl aE.ks, .bool, .int .i64, .row 50131 aG.ks 112 32, .row 50132 [.str] 9 16, .row 50133 [.int .i64] 3 8])], [(101, aI.shs)]⟩)]),
 (26, [(3, ⟨[(0, .sl [.int .u8]), (4, .row 3004 aA.ks 53 416), (5, .int .i64)], [], []⟩)]),
 (44, [(6, ⟨[(0, .sl [.int .u8]), (1, .int .i64), (7, .int .u64), (8, .int .u64), (9, .int .i64)], [], []⟩)]),
 (39, [(3, ⟨[(0, .sl [.int .u8]), (3, .int .u64), (4, .int .i64)], [], []⟩)]),
 (23, [(3, ⟨[(5, .row 3005 [.int .u8] 5 1), (6, .int .u64)], [], []⟩)]),
 (104, [(12, ⟨[(0, .ptr 2000000000 0), (2, .ptr 1000000000 0), (3, .ptr 1000000001 0), (4, .int .i64), (5, .int .i64)], [(47, aF.shs), (47, [.str, .str, .int .i64, .bool, .int .i64, .int .i64, .str, .int .i64, .row 50108 aE.ks 119 32])], [(108, aC.shs)]⟩)]),
 (105, [(4, ⟨[(0, .ptr 2000000000 0), (3, .ptr 1000000000 0), (4, .ptr 1000000001 0), (5, .ptr 1000000002 0), (6, .int .i64), (7, .int .i64)], [(53, aA.shs), (53, aA.shs), (53, [.int .i64, .int .i64, .bool, .str, .str, .int .i64, .bool, .int .i64, .int .i64, .str, .int .i64, .sl aE.ks, .str, .str, .bool, .int .i64, .int .i64, .int .i64, .bool, .int .i64, .str, .str, .int .i64, .bool, .int .i64, .int .i64, .str, .int .i64, .sl aE.ks, .bool, .int .i64, .row 50231 aG.ks 112 32, .row 50232 [.str] 9 16, .row 50233 [.int .i64] 3 8])], [(108, aC.shs)]⟩)]),
 (79, [(4, ⟨[(0, .sl aE.ks), (1, .sl aE.ks), (5, .int .i64)], [], []⟩)]),
 (49, [(4, ⟨[(0, .sl aG.ks), (1, .sl aG.ks), (5, .int .i64)], [], []⟩)]),
 (50, [(4, ⟨[(0, .sl [.str]), (1, .sl [.str]), (5, .int .i64)], [], []⟩)]),
 (51, [(4, ⟨[(0, .sl [.int .i64]), (1, .sl [.int .i64]), (5, .int .i64)], [], []⟩)]),
 (80, [(4, ⟨[(0, .str), (3, .int .i64)], [], []⟩)]),
 (129, [(2, ⟨[(0, .str), (1, .int .u8), (5, .int .i64)], [], []⟩)]),
 (131, [(4, ⟨[(0, .str), (3, .row 3003 [.str] 9 16), (4, .int .i64), (5, .int .i64)], [], []⟩)]),
 (130, [(4, ⟨[(0, .str), (3, .int .i64)], [], []⟩)]),
 (109, [(4, ⟨[(0, .sl aE.ks), (3, .int .i64)], [], []⟩)]),
 (111, [(5, ⟨[(3, .row 3003 [.str] 9 16), (4, .int .i64)], [], []⟩)]),
 (110, [(5, ⟨[(5, .str), (6, .int .i64)], [], []⟩)]),
 (58, [(2, ⟨[(1, .ptr 1000000000 0), (3, .int .i64)], [(53, aA.shs)], []⟩), (8, ⟨[(1, .ptr 1000000000 0), (5, .int .i64)], [(53, aA.shs)], []⟩), (13, ⟨[(1, .ptr 1000000000 0), (6, .int .i64)], [(53, aA.shs)], []⟩)]),
 (28, [(3, ⟨[(0, .sl [.int .u8]), (4, .row 3004 aA.ks 53 416), (5, .int .i64)], [], []⟩)]),
 (14, [(4, ⟨[(0, .sl aA.ks), (1, .sl aA.ks), (5, .int .i64)], [], []⟩)])]
noncomputable def hrL : List (Nat × List (Nat × Hint)) := [(114, [(3, ⟨[(2, .ptr 1000000000 0), (3, .ptr 1000000001 0)], [(47, aF.shs), (47, aF.shs)], []⟩)]),
 (118, [(3, ⟨[(0, .str)], [], []⟩), (7, ⟨[(3, .int .i64), (4, .int .i32), (5, .bool), (15, .it 4000)], [], []⟩)]),
 (139, [(3, ⟨[(0, .str)], [], []⟩)]),
 (140, [(3, ⟨[(0, .str)], [], []⟩)]),
 (149, [(7, ⟨[(0, .str), (1, .str), (2, .int .i64), (3, .int .i64)], [], []⟩), (17, ⟨[(0, .str), (9, .row 3009 [.str] 9 16), (10, .int .i64)], [], []⟩)]),
 (61, [(5, ⟨[(0, .sl [.bool]), (3, .int .i64), (4, .int .i64), (10, .int .i64), (11, .bool)], [], []⟩)]),
 (9, [(5, ⟨[(1, .sl aA.ks), (2, .ptr 1000000000 0), (5, .ptr 1000000001 0)], [(23, aJ.shs), (23, aJ.shs)], []⟩)]),
 (41, [(3, ⟨[(0, .sl [.int .u8]), (1, .int .i64)], [], []⟩), (11, ⟨[(0, .sl [.int .u8]), (1, .int .i64), (7, .int .u64), (8, .int .i64), (9, .int .u8), (39, .int .i64), (40, .bool), (41, .bool), (44, .bool)], [], []⟩)]),
 (44, [(3, ⟨[(0, .sl [.int .u8]), (1, .int .i64)], [], []⟩), (13, ⟨[(0, .sl [.int .u8]), (1, .int .i64), (7, .int .u64), (8, .int .u64), (9, .int .i64), (10, .int .u8), (42, .int .i64), (43, .bool), (44, .bool), (47, .bool)], [], []⟩)]),
 (103, [(4, ⟨[(0, .ptr 2000000000 0), (5, .int .i64)], [], [(108, aC.shs)]⟩)]),
 (104, [(14, ⟨[(0, .ptr 2000000000 0), (2, .ptr 1000000000 0), (3, .ptr 1000000001 0), (4, .int .i64), (5, .int .i64), (39, .ptr 2000000000 0), (40, .ptr 2000000000 0), (41, .ptr 2000000000 2), (42, .int .i64), (43, .bool)], [(47, aF.shs), (47, [.str, .str, .int .i64, .bool, .int .i64, .int .i64, .str, .int .i64, .row 50108 aE.ks 119 32])], [(108, aC.shs)]⟩)]),
 (105, [(6, ⟨[(0, .ptr 2000000000 0), (3, .ptr 1000000000 0), (4, .ptr 1000000001 0), (5, .ptr 1000000002 0), (6, .int .i64), (7, .int .i64), (16, .ptr 2000000000 0), (17, .ptr 2000000000 0), (18, .ptr 2000000000 2), (19, .int .i64), (20, .bool)], [(53, aA.shs), (53, aA.shs), (53, [.int .i64, .int .i64, .bool, .str, .str, .int .i64, .bool, .int .i64, .int .i64, .str, .int .i64, .sl aE.ks, .str, .str, .bool, .int .i64, .int .i64, .int .i64, .bool, .int .i64, .str, .str, .int .i64, .bool, .int .i64, .int .i64, .str, .int .i64, .sl aE.ks, .bool, .int .i64, .row 50231 aG.ks 112 32, .row 50232 [.str] 9 16, .row 50233 [.int .i64] 3 8])], [(108, aC.shs)]⟩)]),
 (78, [(13, ⟨[(0, .ptr 2000000000 0), (1, .int .i64), (4, .ptr 1000000000 0), (5, .ptr 1000000001 0)], [(53, [.int .i64, .int .i64, .bool, .str, .str, .int .i64, .bool, .int .i64, .int .i64, .str, .int .i64, .any, .str, .str, .bool, .int .i64, .int .i64, .int .i64, .bool, .int .i64, .str, .str, .int .i64, .bool, .int .i64, .int .i64, .str, .int .i64, .any, .bool, .int .i64, .any, .any, .any]), (53, [.int .i64, .int .i64, .bool, .str, .str, .int .i64, .bool, .int .i64, .int .i64, .str, .int .i64, .any, .str, .str, .bool, .int .i64, .int .i64, .int .i64, .bool, .int .i64, .str, .str, .int .i64, .bool, .int .i64, .int .i64, .str, .int .i64, .any, .bool, .int .i64, .any, .any, .any])], [(108, aC.shs)]⟩)]),
 (52, [(4, ⟨[(1, .ptr 1000000000 0), (2, .ptr 1000000001 0), (3, .ptr 1000000002 0)], [(53, aA.shs), (53, aA.shs), (53, aA.shs)], []⟩), (12, ⟨[(1, .ptr 1000000000 0), (2, .ptr 1000000001 0), (3, .ptr 1000000002 0)], [(53, aA.shs), (53, aA.shs), (53, aA.shs)], []⟩), (14, ⟨[(1, .ptr 1000000000 0), (2, .ptr 1000000001 0), (3, .ptr 1000000002 0)], [(53, aA.shs), (53, aA.shs), (53, aA.shs)], []⟩), (16, ⟨[(1, .ptr 1000000000 0), (2, .ptr 1000000001 0), (3, .ptr 1000000002 0)], [(53, aA.shs), (53, aA.shs), (53, aA.shs)], []⟩), (19, ⟨[(1, .ptr 1000000000 0), (2, .ptr 1000000001 0), (3, .ptr 1000000002 0)], [(53, aA.shs), (53, aA.shs), (53, aA.shs)], []⟩), (21, ⟨[(1, .ptr 1000000000 0), (2, .ptr 1000000001 0), (3, .ptr 1000000002 0)], [(53, aA.shs), (53, aA.shs), (53, aA.shs)], []⟩), (23, ⟨[(1, .ptr 1000000000 0), (2, .ptr 1000000001 0), (3, .ptr 1000000002 0)], [(53, aA.shs), (53, aA.shs), (53, aA.shs)], []⟩)]),
 (30, [(3, ⟨[(2, .ptr 1000000000 0), (3, .ptr 1000000001 0)], [(53, aA.shs), (53, aA.shs)], []⟩), (5, ⟨[(2, .ptr 1000000000 0), (3, .ptr 1000000001 0)], [(53, aA.shs), (53, aA.shs)], []⟩)]),
 (80, [(3, ⟨[(0, .str)], [], []⟩)]),
 (130, [(3, ⟨[(0, .str)], [], []⟩)]),
 (82, [(7, ⟨[(1, .ptr 1000000000 0)], [(47, aF.shs)], []⟩), (9, ⟨[(1, .ptr 1000000000 0)], [(47, aF.shs)], []⟩), (11, ⟨[(1, .ptr 1000000000 0)], [(47, aF.shs)], []⟩)]),
 (53, [(3, ⟨[(1, .ptr 1000000000 0)], [(53, aA.shs)], []⟩)]),
 (111, [(9, ⟨[(3, .row 3003 [.str] 9 16), (4, .int .i64)], [], []⟩)]),
 (110, [(7, ⟨[(5, .str), (6, .int .i64)], [], []⟩), (9, ⟨[(5, .str), (6, .int .i64)], [], []⟩)]),
 (83, [(5, ⟨[(1, .ptr 1000000000 0)], [(112, aG.shs)], []⟩)]),
 (31, [(3, ⟨[(1, .ptr 1000000000 0)], [(53, aA.shs)], []⟩), (15, ⟨[(1, .ptr 1000000000 0)], [(53, aA.shs)], []⟩), (17, ⟨[(1, .ptr 1000000000 0)], [(53, aA.shs)], []⟩), (20, ⟨[(1, .ptr 1000000000 0)], [(53, aA.shs)], []⟩)]),
 (46, [(7, ⟨[(0, .sl [.int .u8]), (2, .ptr 1000000000 0), (4, .ptr 1000000001 0), (5, .int .i64)], [(53, aA.shs), (108, aC.shs)], []⟩), (12, ⟨[(2, .ptr 1000000000 0), (4, .ptr 1000000001 0), (6, .ptr 1000000002 0)], [(53, aA.shs), (108, aC.shs), (53, aA.shs)], []⟩), (14, ⟨[(2, .ptr 1000000000 0), (4, .ptr 1000000001 0), (6, .ptr 1000000002 0)], [(53, aA.shs), (108, aC.shs), (53, aA.shs)], []⟩)])]
noncomputable def eqL : List (Nat × List CK) := [(23, [.int .i64, .int .i64, .int .i64, .bool]), (112, [.str, .int .i64, .bool]), (119, [.str, .str]), (130, [.int .i64, .int .i64, .int .i64, .int .i64, .int .i64, .int .i64, .int .i64, .bool, .bool, .bool, .bool, .str, .str])]
noncomputable def prL : List (Nat × Prim) := [(157, .indexByte), (161, .countByte)]
def aqy : GuardI := guardOf Go.Proofs.Tryz.f42 Go.Proofs.Tryz.f71 98
noncomputable def lbL : List (Nat × LibK) := [(42, .guard aqy)]
noncomputable def pvL : List (Nat × Sh) := [(73, .ifc 98 aQ.sh), (72, .ifc 98 aQ.sh), (122, .ifc 98 aQ.sh), (99, .ifc 98 aQ.sh), (124, .ifc 98 aQ.sh), (100, .ifc 98 aQ.sh), (98, .ifc 98 aQ.sh), (101, .ifc 98 aQ.sh), (74, .ifc 98 aQ.sh)]
noncomputable def SE : Env := { fn := assoc fnL, ty := assoc tyL, tm := assoc tmL, mv := fun f => match assoc mvL f with | some b => b | none => false, eqt := assoc eqL, pv := assoc pvL, hl := fun f r => match assoc hlL f with | some l => assoc l r | none => none, hr := fun f r => match assoc hrL f with | some l => assoc l r | none => none, prim := assoc prL, lib := assoc lbL, kn := fun f => Nat.beq f 105, na := fun f => match assoc naL f with | some l => l | none => [] }
def fD : (aJ) → Out := fun r => .ret [aJ.av r] [] []
theorem rJ : ∀ y z, fD y = fD z → y = z := fun y z h => aJ.inj (congrArg (fun o => List.map avD (cellsOf (aS 0 (Out.res o)))) h)
def packet_is_out : (Bool) → Out := fun r => .ret [.d (.bool r)] [] []
theorem packet_is_inj : ∀ y z, packet_is_out y = packet_is_out z → y = z := fun y z h => congrArg (fun o => bX (avD (aS 0 (Out.res o)))) h
def cH : (aA) → Out := fun r => .ret [aA.av r] [] []
theorem aff : ∀ y z, cH y = cH z → y = z := fun y z h => aA.inj (congrArg (fun o => List.map avD (cellsOf (aS 0 (Out.res o)))) h)
def mE : (cJ) → Out := fun r => .ret [cJ.av r] [] []
theorem ajj : ∀ y z, mE y = mE z → y = z := fun y z h => cJ.inj (congrArg (fun o => List.map avD (cellsOf (aS 0 (Out.res o)))) h)
def aH : (Int) → Out := fun r => .ret [.d (.int .i64 r)] [] []
theorem bA : ∀ y z, aH y = aH z → y = z := fun y z h => congrArg (fun o => aX (avD (aS 0 (Out.res o)))) h
def fB : (Str × Bool) → Out := fun r => .ret [.d (.str r.1), .d (.bool r.2)] [] []
theorem wX : ∀ y z, fB y = fB z → y = z := fun y z h => Prod.ext (congrArg (fun o => bM (avD (aS 0 (Out.res o)))) h) (congrArg (fun o => bX (avD (aS 1 (Out.res o)))) h)
def bV : (Str × Str × Bool) → Out := fun r => .ret [.d (.str r.1), .d (.str r.2.1), .d (.bool r.2.2)] [] []
theorem oD : ∀ y z, bV y = bV z → y = z := fun y z h => Prod.ext (congrArg (fun o => bM (avD (aS 0 (Out.res o)))) h) (Prod.ext (congrArg (fun o => bM (avD (aS 1 (Out.res o)))) h) (congrArg (fun o => bX (avD (aS 2 (Out.res o)))) h))
def cU : ((List Str)) → Out := fun r => .ret [.d (.sl [.str] (List.map aZ r))] [] []
theorem vY : ∀ y z, cU y = cU z → y = z := fun y z h => map_inj alB (congrArg (fun o => dSl (avD (aS 0 (Out.res o)))) h)
def nV : (Bool × Bool) → Out := fun r => .ret [.d (.bool r.1), .d (.bool r.2)] [] []
theorem acX : ∀ y z, nV y = nV z → y = z := fun y z h => Prod.ext (congrArg (fun o => bX (avD (aS 0 (Out.res o)))) h) (congrArg (fun o => bX (avD (aS 1 (Out.res o)))) h)
def aL : ((List Int)) → Out := fun r => .ret [.row 0] [] [⟨[.int .u8], 5, 1, (List.map (aO .u8) r)⟩]
theorem bC : ∀ y z, aL y = aL z → y = z := fun y z h => map_inj (yA _) (congrArg (fun o => oN 0 (Out.rws o)) h)
def n5 : (Int) → Out := fun r => .ret [.d (.int .u64 r)] [] []
theorem ah7 : ∀ y z, n5 y = n5 z → y = z := fun y z h => congrArg (fun o => aX (avD (aS 0 (Out.res o)))) h
def bF : ((List Int) × Int) → Out := fun r => .ret [.row 0, .d (.int .i64 r.2)] [] [⟨[.int .u8], 5, 1, (List.map (aO .u8) r.1)⟩]
theorem xD : ∀ y z, bF y = bF z → y = z := fun y z h => Prod.ext (map_inj (yA _) (congrArg (fun o => oN 0 (Out.rws o)) h)) (congrArg (fun o => aX (avD (aS 1 (Out.res o)))) h)
def cC : ((List Int) × aJ × Int) → Out := fun r => .ret [.row 0, aJ.av r.2.1, .d (.int .i64 r.2.2)] [] [⟨[.int .u8], 5, 1, (List.map (aO .u8) r.1)⟩]
theorem tJ : ∀ y z, cC y = cC z → y = z := fun y z h => Prod.ext (map_inj (yA _) (congrArg (fun o => oN 0 (Out.rws o)) h)) (Prod.ext (aJ.inj (congrArg (fun o => List.map avD (cellsOf (aS 1 (Out.res o)))) h)) (congrArg (fun o => aX (avD (aS 2 (Out.res o)))) h))
def bH : (Int × Int × Int) → Out := fun r => .ret [.d (.int .i64 r.1), .d (.int .i64 r.2.1), .d (.int .i64 r.2.2)] [] []
theorem jP : ∀ y z, bH y = bH z → y = z := fun y z h => Prod.ext (congrArg (fun o => aX (avD (aS 0 (Out.res o)))) h) (Prod.ext (congrArg (fun o => aX (avD (aS 1 (Out.res o)))) h) (congrArg (fun o => aX (avD (aS 2 (Out.res o)))) h))
def dZ : ((List Int) × Int × Int) → Out := fun r => .ret [.row 0, .d (.int .i64 r.2.1), .d (.int .i64 r.2.2)] [] [⟨[.int .u8], 5, 1, (List.map (aO .u8) r.1)⟩]
theorem agZ : ∀ y z, dZ y = dZ z → y = z := fun y z h => Prod.ext (map_inj (yA _) (congrArg (fun o => oN 0 (Out.rws o)) h)) (Prod.ext (congrArg (fun o => aX (avD (aS 1 (Out.res o)))) h) (congrArg (fun o => aX (avD (aS 2 (Out.res o)))) h))
def dO : (Int × Int × (List Int) × Int) → Out := fun r => .ret [.d (.int .i64 r.1), .d (.int .i64 r.2.1), .d (.sl [.int .u8] (List.map (aO .u8) r.2.2.1)), .d (.int .i64 r.2.2.2)] [] []
theorem abb : ∀ y z, dO y = dO z → y = z := fun y z h => Prod.ext (congrArg (fun o => aX (avD (aS 0 (Out.res o)))) h) (Prod.ext (congrArg (fun o => aX (avD (aS 1 (Out.res o)))) h) (Prod.ext (map_inj (yA _) (congrArg (fun o => dSl (avD (aS 2 (Out.res o)))) h)) (congrArg (fun o => aX (avD (aS 3 (Out.res o)))) h)))
def abL : (Unit) → Out := fun r => .ret [] [] []
def fG : (aQ ⊕ (Unit)) → Out := fun s => match s with | .inl q => .pan (.ifc 98 (aQ.av q)) | .inr r => abL r
theorem anS : ∀ y z, abL y = abL z → y = z := fun y z h => rfl
theorem pY : ∀ y z, fG y = fG z → y = z := fun y z h => match y, z, h with
 | .inl a, .inl b, h => congrArg Sum.inl (aQ.inj (congrArg (fun o => List.map avD (cellsOf (ahI (Out.aeu o)))) h))
 | .inr a, .inr b, h => congrArg Sum.inr (anS a b h)
 | .inl _, .inr _, h => Bool.noConfusion (congrArg Out.oY h : true = false)
 | .inr _, .inl _, h => Bool.noConfusion (congrArg Out.oY h : false = true)
def nN : (Int × aI) → Out := fun r => .ret [.d (.int .i64 r.1)] [⟨101, (aI.avs r.2)⟩] []
def bJ : (aQ ⊕ (Int × aI)) → Out := fun s => match s with | .inl q => .pan (.ifc 98 (aQ.av q)) | .inr r => nN r
theorem ad7 : ∀ y z, nN y = nN z → y = z := fun y z h => Prod.ext (congrArg (fun o => aX (avD (aS 0 (Out.res o)))) h) (aI.inj (congrArg (fun o => List.map avD (aaZ 0 (Out.bxs o))) h))
theorem eD : ∀ y z, bJ y = bJ z → y = z := fun y z h => match y, z, h with
 | .inl a, .inl b, h => congrArg Sum.inl (aQ.inj (congrArg (fun o => List.map avD (cellsOf (ahI (Out.aeu o)))) h))
 | .inr a, .inr b, h => congrArg Sum.inr (ad7 a b h)
 | .inl _, .inr _, h => Bool.noConfusion (congrArg Out.oY h : true = false)
 | .inr _, .inl _, h => Bool.noConfusion (congrArg Out.oY h : false = true)
def eU : (Str × Int × Int) → Out := fun r => .ret [.d (.str r.1), .d (.int .i64 r.2.1), .d (.int .i64 r.2.2)] [] []
theorem acQ : ∀ y z, eU y = eU z → y = z := fun y z h => Prod.ext (congrArg (fun o => bM (avD (aS 0 (Out.res o)))) h) (Prod.ext (congrArg (fun o => aX (avD (aS 1 (Out.res o)))) h) (congrArg (fun o => aX (avD (aS 2 (Out.res o)))) h))
def qU : (Str × aI) → Out := fun r => .ret [.d (.str r.1)] [⟨101, (aI.avs r.2)⟩] []
def cY : (aQ ⊕ (Str × aI)) → Out := fun s => match s with | .inl q => .pan (.ifc 98 (aQ.av q)) | .inr r => qU r
theorem adj : ∀ y z, qU y = qU z → y = z := fun y z h => Prod.ext (congrArg (fun o => bM (avD (aS 0 (Out.res o)))) h) (aI.inj (congrArg (fun o => List.map avD (aaZ 0 (Out.bxs o))) h))
theorem iW : ∀ y z, cY y = cY z → y = z := fun y z h => match y, z, h with
 | .inl a, .inl b, h => congrArg Sum.inl (aQ.inj (congrArg (fun o => List.map avD (cellsOf (ahI (Out.aeu o)))) h))
 | .inr a, .inr b, h => congrArg Sum.inr (adj a b h)
 | .inl _, .inr _, h => Bool.noConfusion (congrArg Out.oY h : true = false)
 | .inr _, .inl _, h => Bool.noConfusion (congrArg Out.oY h : false = true)
def jN : (Int × aI) → Out := fun r => .ret [.d (.int .i64 r.1)] [⟨101, (aI.avs r.2)⟩] []
def eH : (aQ ⊕ (Int × aI)) → Out := fun s => match s with | .inl q => .pan (.ifc 98 (aQ.av q)) | .inr r => jN r
theorem acF : ∀ y z, jN y = jN z → y = z := fun y z h => Prod.ext (congrArg (fun o => aX (avD (aS 0 (Out.res o)))) h) (aI.inj (congrArg (fun o => List.map avD (aaZ 0 (Out.bxs o))) h))
theorem mP : ∀ y z, eH y = eH z → y = z := fun y z h => match y, z, h with
 | .inl a, .inl b, h => congrArg Sum.inl (aQ.inj (congrArg (fun o => List.map avD (cellsOf (ahI (Out.aeu o)))) h))
 | .inr a, .inr b, h => congrArg Sum.inr (acF a b h)
 | .inl _, .inr _, h => Bool.noConfusion (congrArg Out.oY h : true = false)
 | .inr _, .inl _, h => Bool.noConfusion (congrArg Out.oY h : false = true)
def lW : (Int × aI) → Out := fun r => .ret [.d (.int .i64 r.1)] [⟨101, (aI.avs r.2)⟩] []
def iN : (aQ ⊕ (Int × aI)) → Out := fun s => match s with | .inl q => .pan (.ifc 98 (aQ.av q)) | .inr r => lW r
theorem acS : ∀ y z, lW y = lW z → y = z := fun y z h => Prod.ext (congrArg (fun o => aX (avD (aS 0 (Out.res o)))) h) (aI.inj (congrArg (fun o => List.map avD (aaZ 0 (Out.bxs o))) h))
theorem xA : ∀ y z, iN y = iN z → y = z := fun y z h => match y, z, h with
 | .inl a, .inl b, h => congrArg Sum.inl (aQ.inj (congrArg (fun o => List.map avD (cellsOf (ahI (Out.aeu o)))) h))
 | .inr a, .inr b, h => congrArg Sum.inr (acS a b h)
 | .inl _, .inr _, h => Bool.noConfusion (congrArg Out.oY h : true = false)
 | .inr _, .inl _, h => Bool.noConfusion (congrArg Out.oY h : false = true)
def jA : (aF × aI) → Out := fun r => .ret [.agg [.d (.str r.1.Topic), .d (.str r.1.Payload), .d (.int .i64 r.1.Level), .d (.bool r.1.Retain), .d (.int .i64 r.1.Priority), .d (.int .i64 r.1.Expires), .d (.str r.1.From), .d (.int .i64 r.1.Seq), .row 0]] [⟨101, (aI.avs r.2)⟩] [⟨aE.ks, 119, 32, (List.map aE.enc r.1.Props)⟩]
def eL : (aQ ⊕ (aF × aI)) → Out := fun s => match s with | .inl q => .pan (.ifc 98 (aQ.av q)) | .inr r => jA r
theorem abT : ∀ y z, jA y = jA z → y = z := fun y z h => Prod.ext (aF.inj (congrArg (fun o => [avD (aS 0 (cellsOf (aS 0 (Out.res o)))), avD (aS 1 (cellsOf (aS 0 (Out.res o)))), avD (aS 2 (cellsOf (aS 0 (Out.res o)))), avD (aS 3 (cellsOf (aS 0 (Out.res o)))), avD (aS 4 (cellsOf (aS 0 (Out.res o)))), avD (aS 5 (cellsOf (aS 0 (Out.res o)))), avD (aS 6 (cellsOf (aS 0 (Out.res o)))), avD (aS 7 (cellsOf (aS 0 (Out.res o)))), D.sl aE.ks (oN 0 (Out.rws o))]) h)) (aI.inj (congrArg (fun o => List.map avD (aaZ 0 (Out.bxs o))) h))
theorem uY : ∀ y z, eL y = eL z → y = z := fun y z h => match y, z, h with
 | .inl a, .inl b, h => congrArg Sum.inl (aQ.inj (congrArg (fun o => List.map avD (cellsOf (ahI (Out.aeu o)))) h))
 | .inr a, .inr b, h => congrArg Sum.inr (abT a b h)
 | .inl _, .inr _, h => Bool.noConfusion (congrArg Out.oY h : true = false)
 | .inr _, .inl _, h => Bool.noConfusion (congrArg Out.oY h : false = true)
def gJ : (aA × aI) → Out := fun r => .ret [.agg [.d (.int .i64 r.1.Kind), .d (.int .i64 r.1.ID), .d (.bool r.1.Dup), .d (.str r.1.Message.Topic), .d (.str r.1.Message.Payload), .d (.int .i64 r.1.Message.Level), .d (.bool r.1.Message.Retain), .d (.int .i64 r.1.Message.Priority), .d (.int .i64 r.1.Message.Expires), .d (.str r.1.Message.From), .d (.int .i64 r.1.Message.Seq), .row 0, .d (.str r.1.Client), .d (.str r.1.User), .d (.bool r.1.Clean), .d (.int .i64 r.1.Keep), .d (.int .i64 r.1.Expiry), .d (.int .i64 r.1.Window), .d (.bool r.1.Will.Set), .d (.int .i64 r.1.Will.Delay), .d (.str r.1.Will.Message.Topic), .d (.str r.1.Will.Message.Payload), .d (.int .i64 r.1.Will.Message.Level), .d (.bool r.1.Will.Message.Retain), .d (.int .i64 r.1.Will.Message.Priority), .d (.int .i64 r.1.Will.Message.Expires), .d (.str r.1.Will.Message.From), .d (.int .i64 r.1.Will.Message.Seq), .row 1, .d (.bool r.1.Present), .d (.int .i64 r.1.Code), .row 2, .row 3, .row 4]] [⟨101, (aI.avs r.2)⟩] [⟨aE.ks, 119, 32, (List.map aE.enc r.1.Message.Props)⟩, ⟨aE.ks, 119, 32, (List.map aE.enc r.1.Will.Message.Props)⟩, ⟨aG.ks, 112, 32, (List.map aG.enc r.1.Subs)⟩, ⟨[.str], 9, 16, (List.map aZ r.1.Filters)⟩, ⟨[.int .i64], 3, 8, (List.map (aO .i64) r.1.Codes)⟩]
def gT : (aQ ⊕ (aA × aI)) → Out := fun s => match s with | .inl q => .pan (.ifc 98 (aQ.av q)) | .inr r => gJ r
theorem abI : ∀ y z, gJ y = gJ z → y = z := fun y z h => Prod.ext (aA.inj (congrArg (fun o => [avD (aS 0 (cellsOf (aS 0 (Out.res o)))), avD (aS 1 (cellsOf (aS 0 (Out.res o)))), avD (aS 2 (cellsOf (aS 0 (Out.res o)))), avD (aS 3 (cellsOf (aS 0 (Out.res o)))), avD (aS 4 (cellsOf (aS 0 (Out.res o)))), avD (aS 5 (cellsOf (aS 0 (Out.res o)))), avD (aS 6 (cellsOf (aS 0 (Out.res o)))), avD (aS 7 (cellsOf (aS 0 (Out.res o)))), avD (aS 8 (cellsOf (aS 0 (Out.res o)))), avD (aS 9 (cellsOf (aS 0 (Out.res o)))), avD (aS 10 (cellsOf (aS 0 (Out.res o)))), D.sl aE.ks (oN 0 (Out.rws o)), avD (aS 12 (cellsOf (aS 0 (Out.res o)))), avD (aS 13 (cellsOf (aS 0 (Out.res o)))), avD (aS 14 (cellsOf (aS 0 (Out.res o)))), avD (aS 15 (cellsOf (aS 0 (Out.res o)))), avD (aS 16 (cellsOf (aS 0 (Out.res o)))), avD (aS 17 (cellsOf (aS 0 (Out.res o)))), avD (aS 18 (cellsOf (aS 0 (Out.res o)))), avD (aS 19 (cellsOf (aS 0 (Out.res o)))), avD (aS 20 (cellsOf (aS 0 (Out.res o)))), avD (aS 21 (cellsOf (aS 0 (Out.res o)))), avD (aS 22 (cellsOf (aS 0 (Out.res o)))), avD (aS 23 (cellsOf (aS 0 (Out.res o)))), avD (aS 24 (cellsOf (aS 0 (Out.res o)))), avD (aS 25 (cellsOf (aS 0 (Out.res o)))), avD (aS 26 (cellsOf (aS 0 (Out.res o)))), avD (aS 27 (cellsOf (aS 0 (Out.res o)))), D.sl aE.ks (oN 1 (Out.rws o)), avD (aS 29 (cellsOf (aS 0 (Out.res o)))), avD (aS 30 (cellsOf (aS 0 (Out.res o)))), D.sl aG.ks (oN 2 (Out.rws o)), D.sl [.str] (oN 3 (Out.rws o)), D.sl [.int .i64] (oN 4 (Out.rws o))]) h)) (aI.inj (congrArg (fun o => List.map avD (aaZ 0 (Out.bxs o))) h))
theorem aci : ∀ y z, gT y = gT z → y = z := fun y z h => match y, z, h with
 | .inl a, .inl b, h => congrArg Sum.inl (aQ.inj (congrArg (fun o => List.map avD (cellsOf (ahI (Out.aeu o)))) h))
 | .inr a, .inr b, h => congrArg Sum.inr (abI a b h)
 | .inl _, .inr _, h => Bool.noConfusion (congrArg Out.oY h : true = false)
 | .inr _, .inl _, h => Bool.noConfusion (congrArg Out.oY h : false = true)
def hZ : (aA × aI) → Out := fun r => .ret [.agg [.d (.int .i64 r.1.Kind), .d (.int .i64 r.1.ID), .d (.bool r.1.Dup), .d (.str r.1.Message.Topic), .d (.str r.1.Message.Payload), .d (.int .i64 r.1.Message.Level), .d (.bool r.1.Message.Retain), .d (.int .i64 r.1.Message.Priority), .d (.int .i64 r.1.Message.Expires), .d (.str r.1.Message.From), .d (.int .i64 r.1.Message.Seq), .d (.sl aE.ks (List.map aE.enc r.1.Message.Props)), .d (.str r.1.Client), .d (.str r.1.User), .d (.bool r.1.Clean), .d (.int .i64 r.1.Keep), .d (.int .i64 r.1.Expiry), .d (.int .i64 r.1.Window), .d (.bool r.1.Will.Set), .d (.int .i64 r.1.Will.Delay), .d (.str r.1.Will.Message.Topic), .d (.str r.1.Will.Message.Payload), .d (.int .i64 r.1.Will.Message.Level), .d (.bool r.1.Will.Message.Retain), .d (.int .i64 r.1.Will.Message.Priority), .d (.int .i64 r.1.Will.Message.Expires), .d (.str r.1.Will.Message.From), .d (.int .i64 r.1.Will.Message.Seq), .d (.sl aE.ks (List.map aE.enc r.1.Will.Message.Props)), .d (.bool r.1.Present), .d (.int .i64 r.1.Code), .row 0, .row 1, .row 2]] [⟨101, (aI.avs r.2)⟩] [⟨aG.ks, 112, 32, (List.map aG.enc r.1.Subs)⟩, ⟨[.str], 9, 16, (List.map aZ r.1.Filters)⟩, ⟨[.int .i64], 3, 8, (List.map (aO .i64) r.1.Codes)⟩]
def dM : (aQ ⊕ (aA × aI)) → Out := fun s => match s with | .inl q => .pan (.ifc 98 (aQ.av q)) | .inr r => hZ r
theorem acO : ∀ y z, hZ y = hZ z → y = z := fun y z h => Prod.ext (aA.inj (congrArg (fun o => [avD (aS 0 (cellsOf (aS 0 (Out.res o)))), avD (aS 1 (cellsOf (aS 0 (Out.res o)))), avD (aS 2 (cellsOf (aS 0 (Out.res o)))), avD (aS 3 (cellsOf (aS 0 (Out.res o)))), avD (aS 4 (cellsOf (aS 0 (Out.res o)))), avD (aS 5 (cellsOf (aS 0 (Out.res o)))), avD (aS 6 (cellsOf (aS 0 (Out.res o)))), avD (aS 7 (cellsOf (aS 0 (Out.res o)))), avD (aS 8 (cellsOf (aS 0 (Out.res o)))), avD (aS 9 (cellsOf (aS 0 (Out.res o)))), avD (aS 10 (cellsOf (aS 0 (Out.res o)))), avD (aS 11 (cellsOf (aS 0 (Out.res o)))), avD (aS 12 (cellsOf (aS 0 (Out.res o)))), avD (aS 13 (cellsOf (aS 0 (Out.res o)))), avD (aS 14 (cellsOf (aS 0 (Out.res o)))), avD (aS 15 (cellsOf (aS 0 (Out.res o)))), avD (aS 16 (cellsOf (aS 0 (Out.res o)))), avD (aS 17 (cellsOf (aS 0 (Out.res o)))), avD (aS 18 (cellsOf (aS 0 (Out.res o)))), avD (aS 19 (cellsOf (aS 0 (Out.res o)))), avD (aS 20 (cellsOf (aS 0 (Out.res o)))), avD (aS 21 (cellsOf (aS 0 (Out.res o)))), avD (aS 22 (cellsOf (aS 0 (Out.res o)))), avD (aS 23 (cellsOf (aS 0 (Out.res o)))), avD (aS 24 (cellsOf (aS 0 (Out.res o)))), avD (aS 25 (cellsOf (aS 0 (Out.res o)))), avD (aS 26 (cellsOf (aS 0 (Out.res o)))), avD (aS 27 (cellsOf (aS 0 (Out.res o)))), avD (aS 28 (cellsOf (aS 0 (Out.res o)))), avD (aS 29 (cellsOf (aS 0 (Out.res o)))), avD (aS 30 (cellsOf (aS 0 (Out.res o)))), D.sl aG.ks (oN 0 (Out.rws o)), D.sl [.str] (oN 1 (Out.rws o)), D.sl [.int .i64] (oN 2 (Out.rws o))]) h)) (aI.inj (congrArg (fun o => List.map avD (aaZ 0 (Out.bxs o))) h))
theorem ac7 : ∀ y z, dM y = dM z → y = z := fun y z h => match y, z, h with
 | .inl a, .inl b, h => congrArg Sum.inl (aQ.inj (congrArg (fun o => List.map avD (cellsOf (ahI (Out.aeu o)))) h))
 | .inr a, .inr b, h => congrArg Sum.inr (acO a b h)
 | .inl _, .inr _, h => Bool.noConfusion (congrArg Out.oY h : true = false)
 | .inr _, .inl _, h => Bool.noConfusion (congrArg Out.oY h : false = true)
def bY : (aA × aI) → Out := fun r => .ret [.agg [.d (.int .i64 r.1.Kind), .d (.int .i64 r.1.ID), .d (.bool r.1.Dup), .d (.str r.1.Message.Topic), .d (.str r.1.Message.Payload), .d (.int .i64 r.1.Message.Level), .d (.bool r.1.Message.Retain), .d (.int .i64 r.1.Message.Priority), .d (.int .i64 r.1.Message.Expires), .d (.str r.1.Message.From), .d (.int .i64 r.1.Message.Seq), .d (.sl aE.ks (List.map aE.enc r.1.Message.Props)), .d (.str r.1.Client), .d (.str r.1.User), .d (.bool r.1.Clean), .d (.int .i64 r.1.Keep), .d (.int .i64 r.1.Expiry), .d (.int .i64 r.1.Window), .d (.bool r.1.Will.Set), .d (.int .i64 r.1.Will.Delay), .d (.str r.1.Will.Message.Topic), .d (.str r.1.Will.Message.Payload), .d (.int .i64 r.1.Will.Message.Level), .d (.bool r.1.Will.Message.Retain), .d (.int .i64 r.1.Will.Message.Priority), .d (.int .i64 r.1.Will.Message.Expires), .d (.str r.1.Will.Message.From), .d (.int .i64 r.1.Will.Message.Seq), .d (.sl aE.ks (List.map aE.enc r.1.Will.Message.Props)), .d (.bool r.1.Present), .d (.int .i64 r.1.Code), .row 0, .row 1, .row 2]] [⟨101, (aI.avs r.2)⟩] [⟨aG.ks, 112, 32, (List.map aG.enc r.1.Subs)⟩, ⟨[.str], 9, 16, (List.map aZ r.1.Filters)⟩, ⟨[.int .i64], 3, 8, (List.map (aO .i64) r.1.Codes)⟩]
def fR : (aQ ⊕ (aA × aI)) → Out := fun s => match s with | .inl q => .pan (.ifc 98 (aQ.av q)) | .inr r => bY r
theorem acr : ∀ y z, bY y = bY z → y = z := fun y z h => Prod.ext (aA.inj (congrArg (fun o => [avD (aS 0 (cellsOf (aS 0 (Out.res o)))), avD (aS 1 (cellsOf (aS 0 (Out.res o)))), avD (aS 2 (cellsOf (aS 0 (Out.res o)))), avD (aS 3 (cellsOf (aS 0 (Out.res o)))), avD (aS 4 (cellsOf (aS 0 (Out.res o)))), avD (aS 5 (cellsOf (aS 0 (Out.res o)))), avD (aS 6 (cellsOf (aS 0 (Out.res o)))), avD (aS 7 (cellsOf (aS 0 (Out.res o)))), avD (aS 8 (cellsOf (aS 0 (Out.res o)))), avD (aS 9 (cellsOf (aS 0 (Out.res o)))), avD (aS 10 (cellsOf (aS 0 (Out.res o)))), avD (aS 11 (cellsOf (aS 0 (Out.res o)))), avD (aS 12 (cellsOf (aS 0 (Out.res o)))), avD (aS 13 (cellsOf (aS 0 (Out.res o)))), avD (aS 14 (cellsOf (aS 0 (Out.res o)))), avD (aS 15 (cellsOf (aS 0 (Out.res o)))), avD (aS 16 (cellsOf (aS 0 (Out.res o)))), avD (aS 17 (cellsOf (aS 0 (Out.res o)))), avD (aS 18 (cellsOf (aS 0 (Out.res o)))), avD (aS 19 (cellsOf (aS 0 (Out.res o)))), avD (aS 20 (cellsOf (aS 0 (Out.res o)))), avD (aS 21 (cellsOf (aS 0 (Out.res o)))), avD (aS 22 (cellsOf (aS 0 (Out.res o)))), avD (aS 23 (cellsOf (aS 0 (Out.res o)))), avD (aS 24 (cellsOf (aS 0 (Out.res o)))), avD (aS 25 (cellsOf (aS 0 (Out.res o)))), avD (aS 26 (cellsOf (aS 0 (Out.res o)))), avD (aS 27 (cellsOf (aS 0 (Out.res o)))), avD (aS 28 (cellsOf (aS 0 (Out.res o)))), avD (aS 29 (cellsOf (aS 0 (Out.res o)))), avD (aS 30 (cellsOf (aS 0 (Out.res o)))), D.sl aG.ks (oN 0 (Out.rws o)), D.sl [.str] (oN 1 (Out.rws o)), D.sl [.int .i64] (oN 2 (Out.rws o))]) h)) (aI.inj (congrArg (fun o => List.map avD (aaZ 0 (Out.bxs o))) h))
theorem acL : ∀ y z, fR y = fR z → y = z := fun y z h => match y, z, h with
 | .inl a, .inl b, h => congrArg Sum.inl (aQ.inj (congrArg (fun o => List.map avD (cellsOf (ahI (Out.aeu o)))) h))
 | .inr a, .inr b, h => congrArg Sum.inr (acr a b h)
 | .inl _, .inr _, h => Bool.noConfusion (congrArg Out.oY h : true = false)
 | .inr _, .inl _, h => Bool.noConfusion (congrArg Out.oY h : false = true)
def dW : (aA × Int) → Out := fun r => .ret [.agg [.d (.int .i64 r.1.Kind), .d (.int .i64 r.1.ID), .d (.bool r.1.Dup), .d (.str r.1.Message.Topic), .d (.str r.1.Message.Payload), .d (.int .i64 r.1.Message.Level), .d (.bool r.1.Message.Retain), .d (.int .i64 r.1.Message.Priority), .d (.int .i64 r.1.Message.Expires), .d (.str r.1.Message.From), .d (.int .i64 r.1.Message.Seq), .d (.sl aE.ks (List.map aE.enc r.1.Message.Props)), .d (.str r.1.Client), .d (.str r.1.User), .d (.bool r.1.Clean), .d (.int .i64 r.1.Keep), .d (.int .i64 r.1.Expiry), .d (.int .i64 r.1.Window), .d (.bool r.1.Will.Set), .d (.int .i64 r.1.Will.Delay), .d (.str r.1.Will.Message.Topic), .d (.str r.1.Will.Message.Payload), .d (.int .i64 r.1.Will.Message.Level), .d (.bool r.1.Will.Message.Retain), .d (.int .i64 r.1.Will.Message.Priority), .d (.int .i64 r.1.Will.Message.Expires), .d (.str r.1.Will.Message.From), .d (.int .i64 r.1.Will.Message.Seq), .d (.sl aE.ks (List.map aE.enc r.1.Will.Message.Props)), .d (.bool r.1.Present), .d (.int .i64 r.1.Code), .row 0, .row 1, .row 2], .d (.int .i64 r.2)] [] [⟨aG.ks, 112, 32, (List.map aG.enc r.1.Subs)⟩, ⟨[.str], 9, 16, (List.map aZ r.1.Filters)⟩, ⟨[.int .i64], 3, 8, (List.map (aO .i64) r.1.Codes)⟩]
theorem amZ : ∀ y z, dW y = dW z → y = z := fun y z h => Prod.ext (aA.inj (congrArg (fun o => [avD (aS 0 (cellsOf (aS 0 (Out.res o)))), avD (aS 1 (cellsOf (aS 0 (Out.res o)))), avD (aS 2 (cellsOf (aS 0 (Out.res o)))), avD (aS 3 (cellsOf (aS 0 (Out.res o)))), avD (aS 4 (cellsOf (aS 0 (Out.res o)))), avD (aS 5 (cellsOf (aS 0 (Out.res o)))), avD (aS 6 (cellsOf (aS 0 (Out.res o)))), avD (aS 7 (cellsOf (aS 0 (Out.res o)))), avD (aS 8 (cellsOf (aS 0 (Out.res o)))), avD (aS 9 (cellsOf (aS 0 (Out.res o)))), avD (aS 10 (cellsOf (aS 0 (Out.res o)))), avD (aS 11 (cellsOf (aS 0 (Out.res o)))), avD (aS 12 (cellsOf (aS 0 (Out.res o)))), avD (aS 13 (cellsOf (aS 0 (Out.res o)))), avD (aS 14 (cellsOf (aS 0 (Out.res o)))), avD (aS 15 (cellsOf (aS 0 (Out.res o)))), avD (aS 16 (cellsOf (aS 0 (Out.res o)))), avD (aS 17 (cellsOf (aS 0 (Out.res o)))), avD (aS 18 (cellsOf (aS 0 (Out.res o)))), avD (aS 19 (cellsOf (aS 0 (Out.res o)))), avD (aS 20 (cellsOf (aS 0 (Out.res o)))), avD (aS 21 (cellsOf (aS 0 (Out.res o)))), avD (aS 22 (cellsOf (aS 0 (Out.res o)))), avD (aS 23 (cellsOf (aS 0 (Out.res o)))), avD (aS 24 (cellsOf (aS 0 (Out.res o)))), avD (aS 25 (cellsOf (aS 0 (Out.res o)))), avD (aS 26 (cellsOf (aS 0 (Out.res o)))), avD (aS 27 (cellsOf (aS 0 (Out.res o)))), avD (aS 28 (cellsOf (aS 0 (Out.res o)))), avD (aS 29 (cellsOf (aS 0 (Out.res o)))), avD (aS 30 (cellsOf (aS 0 (Out.res o)))), D.sl aG.ks (oN 0 (Out.rws o)), D.sl [.str] (oN 1 (Out.rws o)), D.sl [.int .i64] (oN 2 (Out.rws o))]) h)) (congrArg (fun o => aX (avD (aS 1 (Out.res o)))) h)
def cR : ((List aA) × Int) → Out := fun r => .ret [.row 0, .d (.int .i64 r.2)] [] [⟨aA.ks, 53, 416, (List.map aA.enc r.1)⟩]
theorem acD : ∀ y z, cR y = cR z → y = z := fun y z h => Prod.ext (map_inj aA.inj (congrArg (fun o => oN 0 (Out.rws o)) h)) (congrArg (fun o => aX (avD (aS 1 (Out.res o)))) h)
def bT : ((List aA) × aJ × Int) → Out := fun r => .ret [.row 0, aJ.av r.2.1, .d (.int .i64 r.2.2)] [] [⟨aA.ks, 53, 416, (List.map aA.enc r.1)⟩]
theorem pB : ∀ y z, bT y = bT z → y = z := fun y z h => Prod.ext (map_inj aA.inj (congrArg (fun o => oN 0 (Out.rws o)) h)) (Prod.ext (aJ.inj (congrArg (fun o => List.map avD (cellsOf (aS 1 (Out.res o)))) h)) (congrArg (fun o => aX (avD (aS 2 (Out.res o)))) h))
def aW : (Int × aC) → Out := fun r => .ret [.d (.int .i64 r.1)] [⟨108, (aC.avs r.2)⟩] []
theorem bU : ∀ y z, aW y = aW z → y = z := fun y z h => Prod.ext (congrArg (fun o => aX (avD (aS 0 (Out.res o)))) h) (aC.inj (congrArg (fun o => List.map avD (aaZ 0 (Out.bxs o))) h))
def cK : (Str × aC) → Out := fun r => .ret [.d (.str r.1)] [⟨108, (aC.avs r.2)⟩] []
theorem fN : ∀ y z, cK y = cK z → y = z := fun y z h => Prod.ext (congrArg (fun o => bM (avD (aS 0 (Out.res o)))) h) (aC.inj (congrArg (fun o => List.map avD (aaZ 0 (Out.bxs o))) h))
def cO : (aF × aC) → Out := fun r => .ret [.agg [.d (.str r.1.Topic), .d (.str r.1.Payload), .d (.int .i64 r.1.Level), .d (.bool r.1.Retain), .d (.int .i64 r.1.Priority), .d (.int .i64 r.1.Expires), .d (.str r.1.From), .d (.int .i64 r.1.Seq), .row 0]] [⟨108, (aC.avs r.2)⟩] [⟨aE.ks, 119, 32, (List.map aE.enc r.1.Props)⟩]
theorem rH : ∀ y z, cO y = cO z → y = z := fun y z h => Prod.ext (aF.inj (congrArg (fun o => [avD (aS 0 (cellsOf (aS 0 (Out.res o)))), avD (aS 1 (cellsOf (aS 0 (Out.res o)))), avD (aS 2 (cellsOf (aS 0 (Out.res o)))), avD (aS 3 (cellsOf (aS 0 (Out.res o)))), avD (aS 4 (cellsOf (aS 0 (Out.res o)))), avD (aS 5 (cellsOf (aS 0 (Out.res o)))), avD (aS 6 (cellsOf (aS 0 (Out.res o)))), avD (aS 7 (cellsOf (aS 0 (Out.res o)))), D.sl aE.ks (oN 0 (Out.rws o))]) h)) (aC.inj (congrArg (fun o => List.map avD (aaZ 0 (Out.bxs o))) h))
def bK : (aA × aC) → Out := fun r => .ret [aA.av r.1] [⟨108, (aC.avs r.2)⟩] []
theorem vA : ∀ y z, bK y = bK z → y = z := fun y z h => Prod.ext (aA.inj (congrArg (fun o => List.map avD (cellsOf (aS 0 (Out.res o)))) h)) (aC.inj (congrArg (fun o => List.map avD (aaZ 0 (Out.bxs o))) h))
def dN : (aA × aC) → Out := fun r => .ret [.agg [.d (.int .i64 r.1.Kind), .d (.int .i64 r.1.ID), .d (.bool r.1.Dup), .d (.str r.1.Message.Topic), .d (.str r.1.Message.Payload), .d (.int .i64 r.1.Message.Level), .d (.bool r.1.Message.Retain), .d (.int .i64 r.1.Message.Priority), .d (.int .i64 r.1.Message.Expires), .d (.str r.1.Message.From), .d (.int .i64 r.1.Message.Seq), .d (.sl aE.ks (List.map aE.enc r.1.Message.Props)), .d (.str r.1.Client), .d (.str r.1.User), .d (.bool r.1.Clean), .d (.int .i64 r.1.Keep), .d (.int .i64 r.1.Expiry), .d (.int .i64 r.1.Window), .d (.bool r.1.Will.Set), .d (.int .i64 r.1.Will.Delay), .d (.str r.1.Will.Message.Topic), .d (.str r.1.Will.Message.Payload), .d (.int .i64 r.1.Will.Message.Level), .d (.bool r.1.Will.Message.Retain), .d (.int .i64 r.1.Will.Message.Priority), .d (.int .i64 r.1.Will.Message.Expires), .d (.str r.1.Will.Message.From), .d (.int .i64 r.1.Will.Message.Seq), .d (.sl aE.ks (List.map aE.enc r.1.Will.Message.Props)), .d (.bool r.1.Present), .d (.int .i64 r.1.Code), .row 0, .row 1, .row 2]] [⟨108, (aC.avs r.2)⟩] [⟨aG.ks, 112, 32, (List.map aG.enc r.1.Subs)⟩, ⟨[.str], 9, 16, (List.map aZ r.1.Filters)⟩, ⟨[.int .i64], 3, 8, (List.map (aO .i64) r.1.Codes)⟩]
theorem acZ : ∀ y z, dN y = dN z → y = z := fun y z h => Prod.ext (aA.inj (congrArg (fun o => [avD (aS 0 (cellsOf (aS 0 (Out.res o)))), avD (aS 1 (cellsOf (aS 0 (Out.res o)))), avD (aS 2 (cellsOf (aS 0 (Out.res o)))), avD (aS 3 (cellsOf (aS 0 (Out.res o)))), avD (aS 4 (cellsOf (aS 0 (Out.res o)))), avD (aS 5 (cellsOf (aS 0 (Out.res o)))), avD (aS 6 (cellsOf (aS 0 (Out.res o)))), avD (aS 7 (cellsOf (aS 0 (Out.res o)))), avD (aS 8 (cellsOf (aS 0 (Out.res o)))), avD (aS 9 (cellsOf (aS 0 (Out.res o)))), avD (aS 10 (cellsOf (aS 0 (Out.res o)))), avD (aS 11 (cellsOf (aS 0 (Out.res o)))), avD (aS 12 (cellsOf (aS 0 (Out.res o)))), avD (aS 13 (cellsOf (aS 0 (Out.res o)))), avD (aS 14 (cellsOf (aS 0 (Out.res o)))), avD (aS 15 (cellsOf (aS 0 (Out.res o)))), avD (aS 16 (cellsOf (aS 0 (Out.res o)))), avD (aS 17 (cellsOf (aS 0 (Out.res o)))), avD (aS 18 (cellsOf (aS 0 (Out.res o)))), avD (aS 19 (cellsOf (aS 0 (Out.res o)))), avD (aS 20 (cellsOf (aS 0 (Out.res o)))), avD (aS 21 (cellsOf (aS 0 (Out.res o)))), avD (aS 22 (cellsOf (aS 0 (Out.res o)))), avD (aS 23 (cellsOf (aS 0 (Out.res o)))), avD (aS 24 (cellsOf (aS 0 (Out.res o)))), avD (aS 25 (cellsOf (aS 0 (Out.res o)))), avD (aS 26 (cellsOf (aS 0 (Out.res o)))), avD (aS 27 (cellsOf (aS 0 (Out.res o)))), avD (aS 28 (cellsOf (aS 0 (Out.res o)))), avD (aS 29 (cellsOf (aS 0 (Out.res o)))), avD (aS 30 (cellsOf (aS 0 (Out.res o)))), D.sl aG.ks (oN 0 (Out.rws o)), D.sl [.str] (oN 1 (Out.rws o)), D.sl [.int .i64] (oN 2 (Out.rws o))]) h)) (aC.inj (congrArg (fun o => List.map avD (aaZ 0 (Out.bxs o))) h))
def gF : ((List Str)) → Out := fun r => .ret [.row 0] [] [⟨[.str], 9, 16, (List.map aZ r)⟩]
theorem zI : ∀ y z, gF y = gF z → y = z := fun y z h => map_inj alB (congrArg (fun o => oN 0 (Out.rws o)) h)
def dU : (aA × Int) → Out := fun r => .ret [aA.av r.1, .d (.int .i64 r.2)] [] []
theorem af2 : ∀ y z, dU y = dU z → y = z := fun y z h => Prod.ext (aA.inj (congrArg (fun o => List.map avD (cellsOf (aS 0 (Out.res o)))) h)) (congrArg (fun o => aX (avD (aS 1 (Out.res o)))) h)
noncomputable def oL : List (Nat × acI) := [(15, .one fD), (85, .one packet_is_out), (87, .one cH), (113, .one mE), (114, .one packet_is_out), (115, .one packet_is_out), (116, .one packet_is_out), (117, .one packet_is_out), (86, .one packet_is_out), (118, .one packet_is_out), (139, .one packet_is_out), (132, .one packet_is_out), (133, .one packet_is_out), (140, .one packet_is_out), (134, .one aH), (119, .one aH), (88, .one aH), (89, .one packet_is_out), (91, .one aH), (90, .one aH), (120, .one aH), (144, .one packet_is_out), (145, .one fB), (141, .one fB), (150, .one aH), (148, .one aH), (146, .one bV), (142, .one bV), (156, .one aH), (155, .one aH), (149, .one cU), (147, .one cU), (143, .one cU), (136, .one packet_is_out), (137, .one packet_is_out), (135, .one bV), (121, .one nV), (92, .one aH), (93, .one aH), (94, .one aH), (59, .one aH), (34, .one aL), (65, .one n5), (33, .one aL), (20, .one aL), (95, .one aL), (61, .one aH), (62, .one aL), (60, .one aL), (63, .one aL), (64, .one aL), (32, .one bF), (19, .one bF), (35, .one aH), (21, .one aL), (9, .one cC), (70, .one aH), (41, .one bH), (40, .one dZ), (25, .one dO), (17, .one bH), (73, .two fG), (72, .two bJ), (138, .one eU), (122, .two cY), (99, .two eH), (123, .one packet_is_out), (124, .two iN), (100, .two eL), (98, .two gT), (101, .two dM), (74, .two fR), (42, .one dW), (26, .one cR), (18, .one fD), (12, .one bT), (8, .one packet_is_out), (76, .one aH), (44, .one bH), (75, .one bH), (39, .one aH), (38, .one n5), (23, .one aL), (24, .one aL), (43, .one dZ), (27, .one dO), (45, .one eU), (77, .one aW), (125, .one cK), (103, .one aW), (126, .one packet_is_out), (127, .one aW), (104, .one cO), (102, .one bK), (105, .one dN), (78, .one bK), (52, .one cH), (79, .one packet_is_out), (47, .one packet_is_out), (48, .one packet_is_out), (49, .one packet_is_out), (50, .one packet_is_out), (51, .one packet_is_out), (30, .one packet_is_out), (106, .one packet_is_out), (107, .one packet_is_out), (80, .one packet_is_out), (129, .one packet_is_out), (131, .one gF), (128, .one packet_is_out), (108, .one packet_is_out), (130, .one packet_is_out), (109, .one aH), (82, .one aH), (81, .one aH), (53, .one aH), (56, .one aH), (54, .one aH), (55, .one packet_is_out), (57, .one aH), (112, .one packet_is_out), (111, .one packet_is_out), (110, .one bV), (84, .one packet_is_out), (83, .one aH), (58, .one aH), (31, .one aH), (46, .one dU), (28, .one cR), (29, .one fD), (13, .one bT), (14, .one packet_is_out), (4, .one packet_is_out)]
def good : FuncId → Out → Prop := adV oL
noncomputable def K (κ : Tau) : m8 := avC oL κ
noncomputable abbrev kF (f : FuncId) : Tau := ahW SE good f
theorem Kr (f : FuncId) : K (kF f) = iQ (kD SE good) := atY oL f
noncomputable abbrev rl (L : cD) (κ : Tau) (f nb : Nat) (p : List Nat) (st : Sto) : Res := atl SE K L κ f nb p st
noncomputable abbrev bdy (κ : Tau) (f : FuncId) (a : List AV) (b : List Bx) (r : List Rw) : Res := as7 SE K κ f a b r
theorem bR {f nb p st} {t x : Res} (h : rl cA (kF f) f nb p st = t) (h2 : Le x t) : Le x (rl lab (kF f) f nb p st) := awX (Kr f) h h2
theorem bD {f a b r} {t x : Res} (h : bdy (kF f) f a b r = t) (h2 : Le x t) (hlib : SE.lib f = none := by rfl) : Le x (aY SE f a b r) := avP (Kr f) hlib h h2
theorem aAj {f a b r gi} {t x : Res} (h : aez SE (K (kF f)) f gi a b r = t) (h2 : Le x t) (hlib : SE.lib f = some (.guard gi) := by rfl) : Le x (aY SE f a b r) := auq (Kr f) hlib h h2
theorem lQ {f g : FuncId} {R S : Type} {out : R → Out} {e : S → Out} {x : Option R} {M : R → Option S} {a : List AV} {b : List Bx} {r : List Rw} {k : R → Res} (hg : ∀ y, good g (out y)) (hi : ∀ y z, out y = out z → y = z) (h : Le (x.map out) (aY SE g a b r)) (hk : ∀ y, x = some y → Le ((M y).map e) (k y)) : Le ((x.bind M).map e) ((kF f).t g out a b r k) := axn (good := good) hg hi h hk
theorem lQp {f g : FuncId} {Q R S : Type} {out : Q ⊕ R → Out} {e : S → Out} {x : Option (Q ⊕ R)} {Mp : Q → Option S} {M : R → Option S} {a : List AV} {b : List Bx} {r : List Rw} {kp : Q → Res} {k : R → Res} (hg : ∀ y, good g (out y)) (hi : ∀ y z, out y = out z → y = z) (h : Le (x.map out) (aY SE g a b r)) (hp : ∀ y, x = some (.inl y) → Le ((Mp y).map e) (kp y)) (hk : ∀ y, x = some (.inr y) → Le ((M y).map e) (k y)) : Le ((bZ x Mp M).map e) ((kF f).p g out a b r kp k) := avJ (good := good) hg hi h hp hk
end Te
end PX
