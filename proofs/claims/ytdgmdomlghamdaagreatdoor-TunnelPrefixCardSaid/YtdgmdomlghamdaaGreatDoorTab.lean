import Derived.Test.YtdgmdomlghamdaaGreatDoorMod
import Derived.Test.YtdgmdomlghamdaaGreatDoorProg
set_option linter.unusedVariables false
set_option linter.unusedSimpArgs false
noncomputable section
namespace PX
open Go
open Md
namespace Te
def tyL : List (Nat × TI) := [(3, ⟨[.int .i64], false, 8, [], 0⟩),
 (4, ⟨[.bool], false, 1, [], 0⟩),
 (5, ⟨[.int .u8], false, 1, [], 0⟩),
 (9, ⟨[.str], false, 16, [], 0⟩),
 (21, ⟨[.int .i32], false, 4, [], 0⟩),
 (23, ⟨[.int .i64, .int .i64, .int .i64, .bool], true, 32, [(0, 3), (1, 3), (2, 3), (3, 4)], 0⟩),
 (24, ⟨[.sl [.int .i64, .int .i64, .bool, .str, .str, .int .i64, .bool, .int .i64, .int .i64, .str, .int .i64, .sl [.str, .str], .str, .str, .bool, .int .i64, .int .i64, .int .i64, .bool, .int .i64, .str, .str, .int .i64, .bool, .int .i64, .int .i64, .str, .int .i64, .sl [.str, .str], .bool, .int .i64, .sl [.str, .int .i64, .bool], .sl [.str], .sl [.int .i64]]], false, 24, [], 53⟩),
 (27, ⟨[.sl [.int .u8]], false, 24, [], 5⟩),
 (28, ⟨[.int .i64], false, 8, [], 0⟩),
 (37, ⟨[.sl [.sl [.int .i64, .int .i64, .bool, .str, .str, .int .i64, .bool, .int .i64, .int .i64, .str, .int .i64, .sl [.str, .str], .str, .str, .bool, .int .i64, .int .i64, .int .i64, .bool, .int .i64, .str, .str, .int .i64, .bool, .int .i64, .int .i64, .str, .int .i64, .sl [.str, .str], .bool, .int .i64, .sl [.str, .int .i64, .bool], .sl [.str], .sl [.int .i64]]]], false, 24, [], 24⟩),
 (38, ⟨[.sl [.int .i64]], false, 24, [], 3⟩),
 (39, ⟨[.sl [.sl [.int .u8]]], false, 24, [], 27⟩),
 (45, ⟨[.sl [.str, .str]], false, 24, [], 119⟩),
 (47, ⟨[.str, .str, .int .i64, .bool, .int .i64, .int .i64, .str, .int .i64, .sl [.str, .str]], true, 112, [(0, 9), (1, 9), (2, 3), (3, 4), (4, 3), (5, 3), (6, 9), (7, 3), (8, 45)], 0⟩),
 (49, ⟨[.bool, .int .i64, .str, .str, .int .i64, .bool, .int .i64, .int .i64, .str, .int .i64, .sl [.str, .str]], true, 128, [(0, 4), (1, 3), (2, 47)], 0⟩),
 (50, ⟨[.sl [.str, .int .i64, .bool]], false, 24, [], 112⟩),
 (51, ⟨[.sl [.str]], false, 24, [], 9⟩),
 (53, ⟨[.int .i64, .int .i64, .bool, .str, .str, .int .i64, .bool, .int .i64, .int .i64, .str, .int .i64, .sl [.str, .str], .str, .str, .bool, .int .i64, .int .i64, .int .i64, .bool, .int .i64, .str, .str, .int .i64, .bool, .int .i64, .int .i64, .str, .int .i64, .sl [.str, .str], .bool, .int .i64, .sl [.str, .int .i64, .bool], .sl [.str], .sl [.int .i64]], true, 416, [(0, 3), (1, 3), (2, 4), (3, 47), (12, 9), (13, 9), (14, 4), (15, 3), (16, 3), (17, 3), (18, 49), (29, 4), (30, 3), (31, 50), (32, 51), (33, 38)], 0⟩),
 (69, ⟨[.int .u64], false, 8, [], 0⟩),
 (71, ⟨[.int .u64], false, 8, [], 0⟩),
 (90, ⟨[.sl [.bool]], false, 24, [], 4⟩),
 (94, ⟨[.int .u32], false, 4, [], 0⟩),
 (98, ⟨[.int .i64], true, 8, [(0, 28)], 0⟩),
 (99, ⟨[.ptr], false, 8, [], 0⟩),
 (101, ⟨[.sl [.int .u8], .int .i64], true, 32, [(0, 27), (1, 3)], 0⟩),
 (112, ⟨[.str, .int .i64, .bool], true, 32, [(0, 9), (1, 3), (2, 4)], 0⟩),
 (119, ⟨[.str, .str], true, 32, [(0, 9), (1, 9)], 0⟩),
 (130, ⟨[.int .i64, .int .i64, .int .i64, .int .i64, .int .i64, .int .i64, .int .i64, .bool, .bool, .bool, .bool, .str, .str], true, 96, [(0, 3), (1, 3), (2, 3), (3, 3), (4, 3), (5, 3), (6, 3), (7, 4), (8, 4), (9, 4), (10, 4), (11, 9), (12, 9)], 0⟩)]
def fnL : List (Nat × Func) := [(15, Go.Proofs.Tryz.f15), (85, Go.Proofs.Tryz.f85), (87, Go.Proofs.Tryz.f87), (113, Go.Proofs.Tryz.f113), (114, Go.Proofs.Tryz.f114), (115, Go.Proofs.Tryz.f115), (116, Go.Proofs.Tryz.f116), (117, Go.Proofs.Tryz.f117), (86, Go.Proofs.Tryz.f86), (118, Go.Proofs.Tryz.f118), (139, Go.Proofs.Tryz.f139), (132, Go.Proofs.Tryz.f132), (133, Go.Proofs.Tryz.f133), (140, Go.Proofs.Tryz.f140), (134, Go.Proofs.Tryz.f134), (119, Go.Proofs.Tryz.f119), (88, Go.Proofs.Tryz.f88), (89, Go.Proofs.Tryz.f89), (91, Go.Proofs.Tryz.f91), (90, Go.Proofs.Tryz.f90), (120, Go.Proofs.Tryz.f120), (144, Go.Proofs.Tryz.f144), (145, Go.Proofs.Tryz.f145), (141, Go.Proofs.Tryz.f141), (150, Go.Proofs.Tryz.f150), (148, Go.Proofs.Tryz.f148), (146, Go.Proofs.Tryz.f146), (142, Go.Proofs.Tryz.f142), (156, Go.Proofs.Tryz.f156), (155, Go.Proofs.Tryz.f155), (149, Go.Proofs.Tryz.f149), (147, Go.Proofs.Tryz.f147), (143, Go.Proofs.Tryz.f143), (136, Go.Proofs.Tryz.f136), (137, Go.Proofs.Tryz.f137), (135, Go.Proofs.Tryz.f135), (121, Go.Proofs.Tryz.f121), (92, Go.Proofs.Tryz.f92), (93, Go.Proofs.Tryz.f93), (94, Go.Proofs.Tryz.f94), (59, Go.Proofs.Tryz.f59), (34, Go.Proofs.Tryz.f34), (65, Go.Proofs.Tryz.f65), (33, Go.Proofs.Tryz.f33), (20, Go.Proofs.Tryz.f20), (95, Go.Proofs.Tryz.f95), (61, Go.Proofs.Tryz.f61), (62, Go.Proofs.Tryz.f62), (60, Go.Proofs.Tryz.f60), (63, Go.Proofs.Tryz.f63), (64, Go.Proofs.Tryz.f64), (32, Go.Proofs.Tryz.f32), (19, Go.Proofs.Tryz.f19), (35, Go.Proofs.Tryz.f35), (21, Go.Proofs.Tryz.f21), (9, Go.Proofs.Tryz.f9), (70, Go.Proofs.Tryz.f70), (41, Go.Proofs.Tryz.f41), (40, Go.Proofs.Tryz.f40), (25, Go.Proofs.Tryz.f25), (17, Go.Proofs.Tryz.f17), (73, Go.Proofs.Tryz.f73), (72, Go.Proofs.Tryz.f72), (138, Go.Proofs.Tryz.f138), (122, Go.Proofs.Tryz.f122), (99, Go.Proofs.Tryz.f99), (123, Go.Proofs.Tryz.f123), (124, Go.Proofs.Tryz.f124), (100, Go.Proofs.Tryz.f100), (98, Go.Proofs.Tryz.f98), (101, Go.Proofs.Tryz.f101), (74, Go.Proofs.Tryz.f74), (42, Go.Proofs.Tryz.f42), (26, Go.Proofs.Tryz.f26), (18, Go.Proofs.Tryz.f18), (12, Go.Proofs.Tryz.f12), (8, Go.Proofs.Tryz.f8), (7, Go.Proofs.Tryz.f7), (52, Go.Proofs.Tryz.f52), (79, Go.Proofs.Tryz.f79), (47, Go.Proofs.Tryz.f47), (48, Go.Proofs.Tryz.f48), (49, Go.Proofs.Tryz.f49), (50, Go.Proofs.Tryz.f50), (51, Go.Proofs.Tryz.f51), (30, Go.Proofs.Tryz.f30), (106, Go.Proofs.Tryz.f106), (107, Go.Proofs.Tryz.f107), (80, Go.Proofs.Tryz.f80), (129, Go.Proofs.Tryz.f129), (131, Go.Proofs.Tryz.f131), (128, Go.Proofs.Tryz.f128), (108, Go.Proofs.Tryz.f108), (130, Go.Proofs.Tryz.f130), (109, Go.Proofs.Tryz.f109), (82, Go.Proofs.Tryz.f82), (81, Go.Proofs.Tryz.f81), (53, Go.Proofs.Tryz.f53), (56, Go.Proofs.Tryz.f56), (54, Go.Proofs.Tryz.f54), (55, Go.Proofs.Tryz.f55), (57, Go.Proofs.Tryz.f57), (112, Go.Proofs.Tryz.f112), (111, Go.Proofs.Tryz.f111), (110, Go.Proofs.Tryz.f110), (84, Go.Proofs.Tryz.f84), (83, Go.Proofs.Tryz.f83), (58, Go.Proofs.Tryz.f58), (31, Go.Proofs.Tryz.f31), (16, Go.Proofs.Tryz.f16), (14, Go.Proofs.Tryz.f14), (5, Go.Proofs.Tryz.f5)]
def tmL : List (Nat × (List Sh × List (TypeId × List Sh))) := [(15, ([aI.sh], [])),
 (85, ([.bool], [])),
 (87, ([aA.sh], [])),
 (113, ([cO.sh], [])),
 (114, ([.bool], [])),
 (115, ([.bool], [])),
 (116, ([.bool], [])),
 (117, ([.bool], [])),
 (86, ([.bool], [])),
 (118, ([.bool], [])),
 (139, ([.bool], [])),
 (132, ([.bool], [])),
 (133, ([.bool], [])),
 (140, ([.bool], [])),
 (134, ([.int .i64], [])),
 (119, ([.int .i64], [])),
 (88, ([.int .i64], [])),
 (89, ([.bool], [])),
 (91, ([.int .i64], [])),
 (90, ([.int .i64], [])),
 (120, ([.int .i64], [])),
 (144, ([.bool], [])),
 (145, ([.str, .bool], [])),
 (141, ([.str, .bool], [])),
 (150, ([.int .i64], [])),
 (148, ([.int .i64], [])),
 (146, ([.str, .str, .bool], [])),
 (142, ([.str, .str, .bool], [])),
 (156, ([.int .i64], [])),
 (155, ([.int .i64], [])),
 (149, ([.sl [.str]], [])),
 (147, ([.sl [.str]], [])),
 (143, ([.sl [.str]], [])),
 (136, ([.bool], [])),
 (137, ([.bool], [])),
 (135, ([.str, .str, .bool], [])),
 (121, ([.bool, .bool], [])),
 (92, ([.int .i64], [])),
 (93, ([.int .i64], [])),
 (94, ([.int .i64], [])),
 (59, ([.int .i64], [])),
 (34, ([.row 0 [.int .u8] 5 1], [])),
 (65, ([.int .u64], [])),
 (33, ([.row 0 [.int .u8] 5 1], [])),
 (20, ([.row 0 [.int .u8] 5 1], [])),
 (95, ([.row 0 [.int .u8] 5 1], [])),
 (61, ([.int .i64], [])),
 (62, ([.row 0 [.int .u8] 5 1], [])),
 (60, ([.row 0 [.int .u8] 5 1], [])),
 (63, ([.row 0 [.int .u8] 5 1], [])),
 (64, ([.row 0 [.int .u8] 5 1], [])),
 (32, ([.row 0 [.int .u8] 5 1, .int .i64], [])),
 (19, ([.row 0 [.int .u8] 5 1, .int .i64], [])),
 (35, ([.int .i64], [])),
 (21, ([.row 0 [.int .u8] 5 1], [])),
 (9, ([.row 0 [.int .u8] 5 1, aI.sh, .int .i64], [])),
 (70, ([.int .i64], [])),
 (41, ([.int .i64, .int .i64, .int .i64], [])),
 (40, ([.row 0 [.int .u8] 5 1, .int .i64, .int .i64], [])),
 (25, ([.int .i64, .int .i64, .sl [.int .u8], .int .i64], [])),
 (17, ([.int .i64, .int .i64, .int .i64], [])),
 (73, ([], [])),
 (72, ([.int .i64], [(101, aK.shs)])),
 (138, ([.str, .int .i64, .int .i64], [])),
 (122, ([.str], [(101, aK.shs)])),
 (99, ([.int .i64], [(101, aK.shs)])),
 (123, ([.bool], [])),
 (124, ([.int .i64], [(101, aK.shs)])),
 (100, ([.agg [.str, .str, .int .i64, .bool, .int .i64, .int .i64, .str, .int .i64, .row 0 aB.ks 119 32]], [(101, aK.shs)])),
 (98, ([.agg [.int .i64, .int .i64, .bool, .str, .str, .int .i64, .bool, .int .i64, .int .i64, .str, .int .i64, .row 0 aB.ks 119 32, .str, .str, .bool, .int .i64, .int .i64, .int .i64, .bool, .int .i64, .str, .str, .int .i64, .bool, .int .i64, .int .i64, .str, .int .i64, .row 1 aB.ks 119 32, .bool, .int .i64, .row 2 aH.ks 112 32, .row 3 [.str] 9 16, .row 4 [.int .i64] 3 8]], [(101, aK.shs)])),
 (101, ([.agg [.int .i64, .int .i64, .bool, .str, .str, .int .i64, .bool, .int .i64, .int .i64, .str, .int .i64, .sl aB.ks, .str, .str, .bool, .int .i64, .int .i64, .int .i64, .bool, .int .i64, .str, .str, .int .i64, .bool, .int .i64, .int .i64, .str, .int .i64, .sl aB.ks, .bool, .int .i64, .row 0 aH.ks 112 32, .row 1 [.str] 9 16, .row 2 [.int .i64] 3 8]], [(101, aK.shs)])),
 (74, ([.agg [.int .i64, .int .i64, .bool, .str, .str, .int .i64, .bool, .int .i64, .int .i64, .str, .int .i64, .sl aB.ks, .str, .str, .bool, .int .i64, .int .i64, .int .i64, .bool, .int .i64, .str, .str, .int .i64, .bool, .int .i64, .int .i64, .str, .int .i64, .sl aB.ks, .bool, .int .i64, .row 0 aH.ks 112 32, .row 1 [.str] 9 16, .row 2 [.int .i64] 3 8]], [(101, aK.shs)])),
 (42, ([.agg [.int .i64, .int .i64, .bool, .str, .str, .int .i64, .bool, .int .i64, .int .i64, .str, .int .i64, .sl aB.ks, .str, .str, .bool, .int .i64, .int .i64, .int .i64, .bool, .int .i64, .str, .str, .int .i64, .bool, .int .i64, .int .i64, .str, .int .i64, .sl aB.ks, .bool, .int .i64, .row 0 aH.ks 112 32, .row 1 [.str] 9 16, .row 2 [.int .i64] 3 8], .int .i64], [])),
 (26, ([.row 0 aA.ks 53 416, .int .i64], [])),
 (18, ([aI.sh], [])),
 (12, ([.row 0 aA.ks 53 416, aI.sh, .int .i64], [])),
 (8, ([.bool], [])),
 (7, ([.bool], [])),
 (52, ([aA.sh], [])),
 (79, ([.bool], [])),
 (47, ([.bool], [])),
 (48, ([.bool], [])),
 (49, ([.bool], [])),
 (50, ([.bool], [])),
 (51, ([.bool], [])),
 (30, ([.bool], [])),
 (106, ([.bool], [])),
 (107, ([.bool], [])),
 (80, ([.bool], [])),
 (129, ([.bool], [])),
 (131, ([.row 0 [.str] 9 16], [])),
 (128, ([.bool], [])),
 (108, ([.bool], [])),
 (130, ([.bool], [])),
 (109, ([.int .i64], [])),
 (82, ([.int .i64], [])),
 (81, ([.int .i64], [])),
 (53, ([.int .i64], [])),
 (56, ([.int .i64], [])),
 (54, ([.int .i64], [])),
 (55, ([.bool], [])),
 (57, ([.int .i64], [])),
 (112, ([.bool], [])),
 (111, ([.bool], [])),
 (110, ([.str, .str, .bool], [])),
 (84, ([.bool], [])),
 (83, ([.int .i64], [])),
 (58, ([.int .i64], [])),
 (31, ([.int .i64], [])),
 (16, ([.bool], [])),
 (14, ([.bool], [])),
 (5, ([.bool], []))]
def mvL : List (Nat × Bool) := [(33, true), (101, true)]
def naL : List (Nat × List (List (Option (List CK × TypeId × Nat)))) := [(33, [[some ([.int .u8], 5, 1)], []]), (101, [[], [none, none, none, none, none, none, none, none, none, none, none, none, none, none, none, none, none, none, none, none, none, none, none, none, none, none, none, none, none, none, none, some (aH.ks, 112, 32), some ([.str], 9, 16), some ([.int .i64], 3, 8)]])]
def hlL : List (Nat × List (Nat × Hint)) := [(114, [(4, ⟨[(3, .ptr 1000000000 0), (71, .sl aB.ks), (72, .int .i64), (73, .int .i64)], [(47, aF.shs)], []⟩)]),
 (115, [(4, ⟨[(1, .sl aH.ks), (12, .sl aH.ks), (13, .int .i64), (14, .int .i64)], [], []⟩)]),
 (116, [(4, ⟨[(1, .sl [.str]), (12, .sl [.str]), (13, .int .i64), (14, .int .i64)], [], []⟩)]),
 (117, [(4, ⟨[(1, .sl [.int .i64]), (12, .sl [.int .i64]), (13, .int .i64), (14, .int .i64)], [], []⟩)]),
 (118, [(4, ⟨[(15, .it 4000)], [], []⟩)]),
 (139, [(5, ⟨[(3, .int .i64), (15, .it 4000)], [], []⟩)]),
 (132, [(4, ⟨[(9, .it 4000)], [], []⟩)]),
 (140, [(4, ⟨[(0, .str), (3, .int .i64)], [], []⟩)]),
 (134, [(4, ⟨[(0, .sl aB.ks), (8, .sl aB.ks), (9, .int .i64), (10, .int .i64)], [], []⟩)]),
 (155, [(6, ⟨[(0, .str), (1, .str), (5, .int .i64)], [], []⟩)]),
 (149, [(11, ⟨[(0, .str), (1, .str), (2, .int .i64), (3, .int .i64), (9, .row 3009 [.str] 9 16), (10, .int .i64)], [], []⟩)]),
 (136, [(6, ⟨[(3, .sl [.str]), (4, .bool), (15, .sl [.str]), (16, .int .i64), (17, .int .i64)], [], []⟩), (9, ⟨[(3, .sl [.str]), (4, .bool), (5, .int .i64), (6, .str), (15, .sl [.str]), (16, .int .i64), (17, .int .i64), (23, .it 4000)], [], []⟩)]),
 (92, [(5, ⟨[(18, .sl aH.ks), (19, .int .i64), (20, .int .i64)], [], []⟩)]),
 (93, [(5, ⟨[(16, .sl [.int .i64]), (17, .int .i64), (18, .int .i64)], [], []⟩)]),
 (94, [(5, ⟨[(18, .sl [.str]), (19, .int .i64), (20, .int .i64)], [], []⟩)]),
 (33, [(2, ⟨[(0, .row 3000 [.int .u8] 5 1), (5, .int .u64)], [], []⟩)]),
 (61, [(3, ⟨[(0, .sl [.bool]), (3, .int .i64), (4, .int .i64)], [], []⟩)]),
 (62, [(8, ⟨[(5, .row 3005 [.int .u8] 5 1), (45, .sl aB.ks), (46, .int .i64), (47, .int .i64)], [], []⟩)]),
 (60, [(4, ⟨[(3, .ptr 1000000000 0), (5, .row 3005 [.int .u8] 5 1), (30, .row 3030 [.int .i64] 3 8), (31, .int .i64), (32, .int .i64)], [(53, aA.shs)], []⟩)]),
 (63, [(3, ⟨[(5, .row 3005 [.int .u8] 5 1), (12, .sl aH.ks), (13, .int .i64), (14, .int .i64)], [], []⟩)]),
 (64, [(3, ⟨[(5, .row 3005 [.int .u8] 5 1), (13, .sl [.str]), (14, .int .i64), (15, .int .i64)], [], []⟩)]),
 (32, [(24, ⟨[(5, .row 3005 [.int .u8] 5 1), (79, .sl [.int .i64]), (80, .int .i64), (81, .int .i64)], [], []⟩)]),
 (19, [(3, ⟨[(4, .row 3004 [.int .u8] 5 1), (9, .sl aA.ks), (10, .int .i64), (11, .int .i64)], [], []⟩)]),
 (35, [(3, ⟨[(3, .int .u32), (6, .sl [.int .u8]), (7, .int .i64), (8, .int .i64)], [], []⟩)]),
 (41, [(6, ⟨[(0, .sl [.int .u8]), (1, .int .i64), (7, .int .u64), (8, .int .i64)], [], []⟩)]),
 (100, [(11, ⟨[(0, .ptr 2000000000 0), (2, .ptr 1000000000 0), (3, .ptr 1000000001 0), (32, .int .i64), (33, .int .i64)], [(47, aF.shs), (47, [.str, .str, .int .i64, .bool, .int .i64, .int .i64, .str, .int .i64, .row 50108 aB.ks 119 32])], [(101, aK.shs)]⟩)]),
 (101, [(3, ⟨[(0, .ptr 2000000000 0), (4, .ptr 1000000000 0), (5, .ptr 1000000001 0), (9, .int .i64), (10, .int .i64)], [(53, aA.shs), (53, [.int .i64, .int .i64, .bool, .str, .str, .int .i64, .bool, .int .i64, .int .i64, .str, .int .i64, .sl aB.ks, .str, .str, .bool, .int .i64, .int .i64, .int .i64, .bool, .int .i64, .str, .str, .int .i64, .bool, .int .i64, .int .i64, .str, .int .i64, .sl aB.ks, .bool, .int .i64, .row 50131 aH.ks 112 32, .row 50132 [.str] 9 16, .row 50133 [.int .i64] 3 8])], [(101, aK.shs)]⟩)]),
 (26, [(3, ⟨[(0, .sl [.int .u8]), (4, .row 3004 aA.ks 53 416), (5, .int .i64)], [], []⟩)]),
 (7, [(4, ⟨[(0, .sl aA.ks), (3, .int .i64)], [], []⟩)]),
 (79, [(4, ⟨[(0, .sl aB.ks), (1, .sl aB.ks), (5, .int .i64)], [], []⟩)]),
 (49, [(4, ⟨[(0, .sl aH.ks), (1, .sl aH.ks), (5, .int .i64)], [], []⟩)]),
 (50, [(4, ⟨[(0, .sl [.str]), (1, .sl [.str]), (5, .int .i64)], [], []⟩)]),
 (51, [(4, ⟨[(0, .sl [.int .i64]), (1, .sl [.int .i64]), (5, .int .i64)], [], []⟩)]),
 (80, [(4, ⟨[(0, .str), (3, .int .i64)], [], []⟩)]),
 (129, [(2, ⟨[(0, .str), (1, .int .u8), (5, .int .i64)], [], []⟩)]),
 (131, [(4, ⟨[(0, .str), (3, .row 3003 [.str] 9 16), (4, .int .i64), (5, .int .i64)], [], []⟩)]),
 (130, [(4, ⟨[(0, .str), (3, .int .i64)], [], []⟩)]),
 (109, [(4, ⟨[(0, .sl aB.ks), (3, .int .i64)], [], []⟩)]),
 (111, [(5, ⟨[(3, .row 3003 [.str] 9 16), (4, .int .i64)], [], []⟩)]),
 (110, [(5, ⟨[(5, .str), (6, .int .i64)], [], []⟩)]),
 (58, [(2, ⟨[(1, .ptr 1000000000 0), (3, .int .i64)], [(53, aA.shs)], []⟩), (8, ⟨[(1, .ptr 1000000000 0), (5, .int .i64)], [(53, aA.shs)], []⟩), (13, ⟨[(1, .ptr 1000000000 0), (6, .int .i64)], [(53, aA.shs)], []⟩)]),
 (16, [(4, ⟨[(0, .sl aA.ks), (3, .int .i64)], [], []⟩)]),
 (14, [(4, ⟨[(0, .sl aA.ks), (1, .sl aA.ks), (5, .int .i64)], [], []⟩)]),
 (5, [(6, ⟨[(0, .int .i64), (1, .sl [.sl aA.ks]), (2, .sl [.int .i64]), (7, .row 3007 [.sl [.int .u8]] 27 24), (8, .ptr 1000000000 0), (9, .int .i64)], [(23, aI.shs)], []⟩), (19, ⟨[(1, .sl [.sl aA.ks]), (2, .sl [.int .i64]), (7, .row 3007 [.sl [.int .u8]] 27 24), (13, .ptr 1000000000 0), (14, .int .i64), (15, .bool), (16, .int .i64)], [(23, aI.shs)], []⟩)])]
def hrL : List (Nat × List (Nat × Hint)) := [(114, [(3, ⟨[(2, .ptr 1000000000 0), (3, .ptr 1000000001 0)], [(47, aF.shs), (47, aF.shs)], []⟩)]),
 (118, [(3, ⟨[(0, .str)], [], []⟩), (7, ⟨[(3, .int .i64), (4, .int .i32), (5, .bool), (15, .it 4000)], [], []⟩)]),
 (139, [(3, ⟨[(0, .str)], [], []⟩)]),
 (140, [(3, ⟨[(0, .str)], [], []⟩)]),
 (149, [(7, ⟨[(0, .str), (1, .str), (2, .int .i64), (3, .int .i64)], [], []⟩), (17, ⟨[(0, .str), (9, .row 3009 [.str] 9 16), (10, .int .i64)], [], []⟩)]),
 (61, [(5, ⟨[(0, .sl [.bool]), (3, .int .i64), (4, .int .i64), (10, .int .i64), (11, .bool)], [], []⟩)]),
 (9, [(5, ⟨[(1, .sl aA.ks), (2, .ptr 1000000000 0), (5, .ptr 1000000001 0)], [(23, aI.shs), (23, aI.shs)], []⟩)]),
 (41, [(3, ⟨[(0, .sl [.int .u8]), (1, .int .i64)], [], []⟩), (11, ⟨[(0, .sl [.int .u8]), (1, .int .i64), (7, .int .u64), (8, .int .i64), (9, .int .u8), (39, .int .i64), (40, .bool), (41, .bool), (44, .bool)], [], []⟩)]),
 (52, [(4, ⟨[(1, .ptr 1000000000 0), (2, .ptr 1000000001 0), (3, .ptr 1000000002 0)], [(53, aA.shs), (53, aA.shs), (53, aA.shs)], []⟩), (12, ⟨[(1, .ptr 1000000000 0), (2, .ptr 1000000001 0), (3, .ptr 1000000002 0)], [(53, aA.shs), (53, aA.shs), (53, aA.shs)], []⟩), (14, ⟨[(1, .ptr 1000000000 0), (2, .ptr 1000000001 0), (3, .ptr 1000000002 0)], [(53, aA.shs), (53, aA.shs), (53, aA.shs)], []⟩), (16, ⟨[(1, .ptr 1000000000 0), (2, .ptr 1000000001 0), (3, .ptr 1000000002 0)], [(53, aA.shs), (53, aA.shs), (53, aA.shs)], []⟩), (19, ⟨[(1, .ptr 1000000000 0), (2, .ptr 1000000001 0), (3, .ptr 1000000002 0)], [(53, aA.shs), (53, aA.shs), (53, aA.shs)], []⟩), (21, ⟨[(1, .ptr 1000000000 0), (2, .ptr 1000000001 0), (3, .ptr 1000000002 0)], [(53, aA.shs), (53, aA.shs), (53, aA.shs)], []⟩), (23, ⟨[(1, .ptr 1000000000 0), (2, .ptr 1000000001 0), (3, .ptr 1000000002 0)], [(53, aA.shs), (53, aA.shs), (53, aA.shs)], []⟩)]),
 (30, [(3, ⟨[(2, .ptr 1000000000 0), (3, .ptr 1000000001 0)], [(53, aA.shs), (53, aA.shs)], []⟩), (5, ⟨[(2, .ptr 1000000000 0), (3, .ptr 1000000001 0)], [(53, aA.shs), (53, aA.shs)], []⟩)]),
 (80, [(3, ⟨[(0, .str)], [], []⟩)]),
 (130, [(3, ⟨[(0, .str)], [], []⟩)]),
 (82, [(7, ⟨[(1, .ptr 1000000000 0)], [(47, aF.shs)], []⟩), (9, ⟨[(1, .ptr 1000000000 0)], [(47, aF.shs)], []⟩), (11, ⟨[(1, .ptr 1000000000 0)], [(47, aF.shs)], []⟩)]),
 (53, [(3, ⟨[(1, .ptr 1000000000 0)], [(53, aA.shs)], []⟩)]),
 (111, [(9, ⟨[(3, .row 3003 [.str] 9 16), (4, .int .i64)], [], []⟩)]),
 (110, [(7, ⟨[(5, .str), (6, .int .i64)], [], []⟩), (9, ⟨[(5, .str), (6, .int .i64)], [], []⟩)]),
 (83, [(5, ⟨[(1, .ptr 1000000000 0)], [(112, aH.shs)], []⟩)]),
 (31, [(3, ⟨[(1, .ptr 1000000000 0)], [(53, aA.shs)], []⟩), (15, ⟨[(1, .ptr 1000000000 0)], [(53, aA.shs)], []⟩), (17, ⟨[(1, .ptr 1000000000 0)], [(53, aA.shs)], []⟩), (20, ⟨[(1, .ptr 1000000000 0)], [(53, aA.shs)], []⟩)]),
 (5, [(3, ⟨[(0, .int .i64), (1, .sl [.sl aA.ks]), (2, .sl [.int .i64])], [], []⟩), (23, ⟨[(1, .sl [.sl aA.ks]), (2, .sl [.int .i64]), (7, .row 3007 [.sl [.int .u8]] 27 24), (13, .ptr 1000000000 0), (14, .int .i64), (15, .bool), (16, .int .i64), (17, .int .i64), (92, .int .i64), (93, .row 3007 [.sl [.int .u8]] 27 24), (94, .int .i64), (95, .bool)], [(23, aI.shs)], []⟩)])]
def eqL : List (Nat × List CK) := [(23, [.int .i64, .int .i64, .int .i64, .bool]), (112, [.str, .int .i64, .bool]), (119, [.str, .str]), (130, [.int .i64, .int .i64, .int .i64, .int .i64, .int .i64, .int .i64, .int .i64, .bool, .bool, .bool, .bool, .str, .str])]
def prL : List (Nat × Prim) := [(157, .indexByte), (161, .countByte)]
def aqd : GuardI := guardOf Go.Proofs.Tryz.f42 Go.Proofs.Tryz.f71 98
def lbL : List (Nat × LibK) := [(42, .guard aqd)]
def pvL : List (Nat × Sh) := [(73, .ifc 98 aP.sh), (72, .ifc 98 aP.sh), (122, .ifc 98 aP.sh), (99, .ifc 98 aP.sh), (124, .ifc 98 aP.sh), (100, .ifc 98 aP.sh), (98, .ifc 98 aP.sh), (101, .ifc 98 aP.sh), (74, .ifc 98 aP.sh)]
def SE : Env := { fn := assoc fnL, ty := assoc tyL, tm := assoc tmL, mv := fun f => match assoc mvL f with | some b => b | none => false, eqt := assoc eqL, pv := assoc pvL, hl := fun f r => match assoc hlL f with | some l => assoc l r | none => none, hr := fun f r => match assoc hrL f with | some l => assoc l r | none => none, prim := assoc prL, lib := assoc lbL, na := fun f => match assoc naL f with | some l => l | none => [] }
def eG : (aI) → Out := fun r => .ret [aI.av r] [] []
theorem o8 : ∀ y z, eG y = eG z → y = z := fun y z h => aI.inj (congrArg (fun o => List.map avD (cellsOf (aV 0 (Out.res o)))) h)
def packet_is_out : (Bool) → Out := fun r => .ret [.d (.bool r)] [] []
theorem packet_is_inj : ∀ y z, packet_is_out y = packet_is_out z → y = z := fun y z h => congrArg (fun o => cF (avD (aV 0 (Out.res o)))) h
def eF : (aA) → Out := fun r => .ret [aA.av r] [] []
theorem af0 : ∀ y z, eF y = eF z → y = z := fun y z h => aA.inj (congrArg (fun o => List.map avD (cellsOf (aV 0 (Out.res o)))) h)
def m0 : (cO) → Out := fun r => .ret [cO.av r] [] []
theorem adg : ∀ y z, m0 y = m0 z → y = z := fun y z h => cO.inj (congrArg (fun o => List.map avD (cellsOf (aV 0 (Out.res o)))) h)
def aJ : (Int) → Out := fun r => .ret [.d (.int .i64 r)] [] []
theorem bE : ∀ y z, aJ y = aJ z → y = z := fun y z h => congrArg (fun o => bC (avD (aV 0 (Out.res o)))) h
def eB : (Str × Bool) → Out := fun r => .ret [.d (.str r.1), .d (.bool r.2)] [] []
theorem xU : ∀ y z, eB y = eB z → y = z := fun y z h => Prod.ext (congrArg (fun o => bQ (avD (aV 0 (Out.res o)))) h) (congrArg (fun o => cF (avD (aV 1 (Out.res o)))) h)
def cM : (Str × Str × Bool) → Out := fun r => .ret [.d (.str r.1), .d (.str r.2.1), .d (.bool r.2.2)] [] []
theorem oV : ∀ y z, cM y = cM z → y = z := fun y z h => Prod.ext (congrArg (fun o => bQ (avD (aV 0 (Out.res o)))) h) (Prod.ext (congrArg (fun o => bQ (avD (aV 1 (Out.res o)))) h) (congrArg (fun o => cF (avD (aV 2 (Out.res o)))) h))
def cY : ((List Str)) → Out := fun r => .ret [.d (.sl [.str] (List.map bB r))] [] []
theorem vY : ∀ y z, cY y = cY z → y = z := fun y z h => map_inj alx (congrArg (fun o => dSl (avD (aV 0 (Out.res o)))) h)
def kE : (Bool × Bool) → Out := fun r => .ret [.d (.bool r.1), .d (.bool r.2)] [] []
theorem adD : ∀ y z, kE y = kE z → y = z := fun y z h => Prod.ext (congrArg (fun o => cF (avD (aV 0 (Out.res o)))) h) (congrArg (fun o => cF (avD (aV 1 (Out.res o)))) h)
def aR : ((List Int)) → Out := fun r => .ret [.row 0] [] [⟨[.int .u8], 5, 1, (List.map (aN .u8) r)⟩]
theorem aX : ∀ y z, aR y = aR z → y = z := fun y z h => map_inj (yJ _) (congrArg (fun o => oZ 0 (Out.rws o)) h)
def lH : (Int) → Out := fun r => .ret [.d (.int .u64 r)] [] []
theorem ait : ∀ y z, lH y = lH z → y = z := fun y z h => congrArg (fun o => bC (avD (aV 0 (Out.res o)))) h
def dB : ((List Int) × Int) → Out := fun r => .ret [.row 0, .d (.int .i64 r.2)] [] [⟨[.int .u8], 5, 1, (List.map (aN .u8) r.1)⟩]
theorem xW : ∀ y z, dB y = dB z → y = z := fun y z h => Prod.ext (map_inj (yJ _) (congrArg (fun o => oZ 0 (Out.rws o)) h)) (congrArg (fun o => bC (avD (aV 1 (Out.res o)))) h)
def dY : ((List Int) × aI × Int) → Out := fun r => .ret [.row 0, aI.av r.2.1, .d (.int .i64 r.2.2)] [] [⟨[.int .u8], 5, 1, (List.map (aN .u8) r.1)⟩]
theorem tP : ∀ y z, dY y = dY z → y = z := fun y z h => Prod.ext (map_inj (yJ _) (congrArg (fun o => oZ 0 (Out.rws o)) h)) (Prod.ext (aI.inj (congrArg (fun o => List.map avD (cellsOf (aV 1 (Out.res o)))) h)) (congrArg (fun o => bC (avD (aV 2 (Out.res o)))) h))
def cA : (Int × Int × Int) → Out := fun r => .ret [.d (.int .i64 r.1), .d (.int .i64 r.2.1), .d (.int .i64 r.2.2)] [] []
theorem iO : ∀ y z, cA y = cA z → y = z := fun y z h => Prod.ext (congrArg (fun o => bC (avD (aV 0 (Out.res o)))) h) (Prod.ext (congrArg (fun o => bC (avD (aV 1 (Out.res o)))) h) (congrArg (fun o => bC (avD (aV 2 (Out.res o)))) h))
def iM : ((List Int) × Int × Int) → Out := fun r => .ret [.row 0, .d (.int .i64 r.2.1), .d (.int .i64 r.2.2)] [] [⟨[.int .u8], 5, 1, (List.map (aN .u8) r.1)⟩]
theorem ag1 : ∀ y z, iM y = iM z → y = z := fun y z h => Prod.ext (map_inj (yJ _) (congrArg (fun o => oZ 0 (Out.rws o)) h)) (Prod.ext (congrArg (fun o => bC (avD (aV 1 (Out.res o)))) h) (congrArg (fun o => bC (avD (aV 2 (Out.res o)))) h))
def fJ : (Int × Int × (List Int) × Int) → Out := fun r => .ret [.d (.int .i64 r.1), .d (.int .i64 r.2.1), .d (.sl [.int .u8] (List.map (aN .u8) r.2.2.1)), .d (.int .i64 r.2.2.2)] [] []
theorem abr : ∀ y z, fJ y = fJ z → y = z := fun y z h => Prod.ext (congrArg (fun o => bC (avD (aV 0 (Out.res o)))) h) (Prod.ext (congrArg (fun o => bC (avD (aV 1 (Out.res o)))) h) (Prod.ext (map_inj (yJ _) (congrArg (fun o => dSl (avD (aV 2 (Out.res o)))) h)) (congrArg (fun o => bC (avD (aV 3 (Out.res o)))) h)))
def acm : (Unit) → Out := fun r => .ret [] [] []
def gS : (aP ⊕ (Unit)) → Out := fun s => match s with | .inl q => .pan (.ifc 98 (aP.av q)) | .inr r => acm r
theorem anu : ∀ y z, acm y = acm z → y = z := fun y z h => rfl
theorem jD : ∀ y z, gS y = gS z → y = z := fun y z h => match y, z, h with
 | .inl a, .inl b, h => congrArg Sum.inl (aP.inj (congrArg (fun o => List.map avD (cellsOf (ah7 (Out.aez o)))) h))
 | .inr a, .inr b, h => congrArg Sum.inr (anu a b h)
 | .inl _, .inr _, h => Bool.noConfusion (congrArg Out.pH h : true = false)
 | .inr _, .inl _, h => Bool.noConfusion (congrArg Out.pH h : false = true)
def sT : (Int × aK) → Out := fun r => .ret [.d (.int .i64 r.1)] [⟨101, (aK.avs r.2)⟩] []
def cQ : (aP ⊕ (Int × aK)) → Out := fun s => match s with | .inl q => .pan (.ifc 98 (aP.av q)) | .inr r => sT r
theorem aeL : ∀ y z, sT y = sT z → y = z := fun y z h => Prod.ext (congrArg (fun o => bC (avD (aV 0 (Out.res o)))) h) (aK.inj (congrArg (fun o => List.map avD (abC 0 (Out.bxs o))) h))
theorem bU : ∀ y z, cQ y = cQ z → y = z := fun y z h => match y, z, h with
 | .inl a, .inl b, h => congrArg Sum.inl (aP.inj (congrArg (fun o => List.map avD (cellsOf (ah7 (Out.aez o)))) h))
 | .inr a, .inr b, h => congrArg Sum.inr (aeL a b h)
 | .inl _, .inr _, h => Bool.noConfusion (congrArg Out.pH h : true = false)
 | .inr _, .inl _, h => Bool.noConfusion (congrArg Out.pH h : false = true)
def gR : (Str × Int × Int) → Out := fun r => .ret [.d (.str r.1), .d (.int .i64 r.2.1), .d (.int .i64 r.2.2)] [] []
theorem adr : ∀ y z, gR y = gR z → y = z := fun y z h => Prod.ext (congrArg (fun o => bQ (avD (aV 0 (Out.res o)))) h) (Prod.ext (congrArg (fun o => bC (avD (aV 1 (Out.res o)))) h) (congrArg (fun o => bC (avD (aV 2 (Out.res o)))) h))
def rO : (Str × aK) → Out := fun r => .ret [.d (.str r.1)] [⟨101, (aK.avs r.2)⟩] []
def eK : (aP ⊕ (Str × aK)) → Out := fun s => match s with | .inl q => .pan (.ifc 98 (aP.av q)) | .inr r => rO r
theorem ad1 : ∀ y z, rO y = rO z → y = z := fun y z h => Prod.ext (congrArg (fun o => bQ (avD (aV 0 (Out.res o)))) h) (aK.inj (congrArg (fun o => List.map avD (abC 0 (Out.bxs o))) h))
theorem fA : ∀ y z, eK y = eK z → y = z := fun y z h => match y, z, h with
 | .inl a, .inl b, h => congrArg Sum.inl (aP.inj (congrArg (fun o => List.map avD (cellsOf (ah7 (Out.aez o)))) h))
 | .inr a, .inr b, h => congrArg Sum.inr (ad1 a b h)
 | .inl _, .inr _, h => Bool.noConfusion (congrArg Out.pH h : true = false)
 | .inr _, .inl _, h => Bool.noConfusion (congrArg Out.pH h : false = true)
def qR : (Int × aK) → Out := fun r => .ret [.d (.int .i64 r.1)] [⟨101, (aK.avs r.2)⟩] []
def dI : (aP ⊕ (Int × aK)) → Out := fun s => match s with | .inl q => .pan (.ifc 98 (aP.av q)) | .inr r => qR r
theorem adt : ∀ y z, qR y = qR z → y = z := fun y z h => Prod.ext (congrArg (fun o => bC (avD (aV 0 (Out.res o)))) h) (aK.inj (congrArg (fun o => List.map avD (abC 0 (Out.bxs o))) h))
theorem kK : ∀ y z, dI y = dI z → y = z := fun y z h => match y, z, h with
 | .inl a, .inl b, h => congrArg Sum.inl (aP.inj (congrArg (fun o => List.map avD (cellsOf (ah7 (Out.aez o)))) h))
 | .inr a, .inr b, h => congrArg Sum.inr (adt a b h)
 | .inl _, .inr _, h => Bool.noConfusion (congrArg Out.pH h : true = false)
 | .inr _, .inl _, h => Bool.noConfusion (congrArg Out.pH h : false = true)
def qU : (Int × aK) → Out := fun r => .ret [.d (.int .i64 r.1)] [⟨101, (aK.avs r.2)⟩] []
def fI : (aP ⊕ (Int × aK)) → Out := fun s => match s with | .inl q => .pan (.ifc 98 (aP.av q)) | .inr r => qU r
theorem adj : ∀ y z, qU y = qU z → y = z := fun y z h => Prod.ext (congrArg (fun o => bC (avD (aV 0 (Out.res o)))) h) (aK.inj (congrArg (fun o => List.map avD (abC 0 (Out.bxs o))) h))
theorem yD : ∀ y z, fI y = fI z → y = z := fun y z h => match y, z, h with
 | .inl a, .inl b, h => congrArg Sum.inl (aP.inj (congrArg (fun o => List.map avD (cellsOf (ah7 (Out.aez o)))) h))
 | .inr a, .inr b, h => congrArg Sum.inr (adj a b h)
 | .inl _, .inr _, h => Bool.noConfusion (congrArg Out.pH h : true = false)
 | .inr _, .inl _, h => Bool.noConfusion (congrArg Out.pH h : false = true)
def pA : (aF × aK) → Out := fun r => .ret [.agg [.d (.str r.1.Topic), .d (.str r.1.Payload), .d (.int .i64 r.1.Level), .d (.bool r.1.Retain), .d (.int .i64 r.1.Priority), .d (.int .i64 r.1.Expires), .d (.str r.1.From), .d (.int .i64 r.1.Seq), .row 0]] [⟨101, (aK.avs r.2)⟩] [⟨aB.ks, 119, 32, (List.map aB.enc r.1.Props)⟩]
def eE : (aP ⊕ (aF × aK)) → Out := fun s => match s with | .inl q => .pan (.ifc 98 (aP.av q)) | .inr r => pA r
theorem acb : ∀ y z, pA y = pA z → y = z := fun y z h => Prod.ext (aF.inj (congrArg (fun o => [avD (aV 0 (cellsOf (aV 0 (Out.res o)))), avD (aV 1 (cellsOf (aV 0 (Out.res o)))), avD (aV 2 (cellsOf (aV 0 (Out.res o)))), avD (aV 3 (cellsOf (aV 0 (Out.res o)))), avD (aV 4 (cellsOf (aV 0 (Out.res o)))), avD (aV 5 (cellsOf (aV 0 (Out.res o)))), avD (aV 6 (cellsOf (aV 0 (Out.res o)))), avD (aV 7 (cellsOf (aV 0 (Out.res o)))), D.sl aB.ks (oZ 0 (Out.rws o))]) h)) (aK.inj (congrArg (fun o => List.map avD (abC 0 (Out.bxs o))) h))
theorem vU : ∀ y z, eE y = eE z → y = z := fun y z h => match y, z, h with
 | .inl a, .inl b, h => congrArg Sum.inl (aP.inj (congrArg (fun o => List.map avD (cellsOf (ah7 (Out.aez o)))) h))
 | .inr a, .inr b, h => congrArg Sum.inr (acb a b h)
 | .inl _, .inr _, h => Bool.noConfusion (congrArg Out.pH h : true = false)
 | .inr _, .inl _, h => Bool.noConfusion (congrArg Out.pH h : false = true)
def pG : (aA × aK) → Out := fun r => .ret [.agg [.d (.int .i64 r.1.Kind), .d (.int .i64 r.1.ID), .d (.bool r.1.Dup), .d (.str r.1.Message.Topic), .d (.str r.1.Message.Payload), .d (.int .i64 r.1.Message.Level), .d (.bool r.1.Message.Retain), .d (.int .i64 r.1.Message.Priority), .d (.int .i64 r.1.Message.Expires), .d (.str r.1.Message.From), .d (.int .i64 r.1.Message.Seq), .row 0, .d (.str r.1.Client), .d (.str r.1.User), .d (.bool r.1.Clean), .d (.int .i64 r.1.Keep), .d (.int .i64 r.1.Expiry), .d (.int .i64 r.1.Window), .d (.bool r.1.Will.Set), .d (.int .i64 r.1.Will.Delay), .d (.str r.1.Will.Message.Topic), .d (.str r.1.Will.Message.Payload), .d (.int .i64 r.1.Will.Message.Level), .d (.bool r.1.Will.Message.Retain), .d (.int .i64 r.1.Will.Message.Priority), .d (.int .i64 r.1.Will.Message.Expires), .d (.str r.1.Will.Message.From), .d (.int .i64 r.1.Will.Message.Seq), .row 1, .d (.bool r.1.Present), .d (.int .i64 r.1.Code), .row 2, .row 3, .row 4]] [⟨101, (aK.avs r.2)⟩] [⟨aB.ks, 119, 32, (List.map aB.enc r.1.Message.Props)⟩, ⟨aB.ks, 119, 32, (List.map aB.enc r.1.Will.Message.Props)⟩, ⟨aH.ks, 112, 32, (List.map aH.enc r.1.Subs)⟩, ⟨[.str], 9, 16, (List.map bB r.1.Filters)⟩, ⟨[.int .i64], 3, 8, (List.map (aN .i64) r.1.Codes)⟩]
def iA : (aP ⊕ (aA × aK)) → Out := fun s => match s with | .inl q => .pan (.ifc 98 (aP.av q)) | .inr r => pG r
theorem acq : ∀ y z, pG y = pG z → y = z := fun y z h => Prod.ext (aA.inj (congrArg (fun o => [avD (aV 0 (cellsOf (aV 0 (Out.res o)))), avD (aV 1 (cellsOf (aV 0 (Out.res o)))), avD (aV 2 (cellsOf (aV 0 (Out.res o)))), avD (aV 3 (cellsOf (aV 0 (Out.res o)))), avD (aV 4 (cellsOf (aV 0 (Out.res o)))), avD (aV 5 (cellsOf (aV 0 (Out.res o)))), avD (aV 6 (cellsOf (aV 0 (Out.res o)))), avD (aV 7 (cellsOf (aV 0 (Out.res o)))), avD (aV 8 (cellsOf (aV 0 (Out.res o)))), avD (aV 9 (cellsOf (aV 0 (Out.res o)))), avD (aV 10 (cellsOf (aV 0 (Out.res o)))), D.sl aB.ks (oZ 0 (Out.rws o)), avD (aV 12 (cellsOf (aV 0 (Out.res o)))), avD (aV 13 (cellsOf (aV 0 (Out.res o)))), avD (aV 14 (cellsOf (aV 0 (Out.res o)))), avD (aV 15 (cellsOf (aV 0 (Out.res o)))), avD (aV 16 (cellsOf (aV 0 (Out.res o)))), avD (aV 17 (cellsOf (aV 0 (Out.res o)))), avD (aV 18 (cellsOf (aV 0 (Out.res o)))), avD (aV 19 (cellsOf (aV 0 (Out.res o)))), avD (aV 20 (cellsOf (aV 0 (Out.res o)))), avD (aV 21 (cellsOf (aV 0 (Out.res o)))), avD (aV 22 (cellsOf (aV 0 (Out.res o)))), avD (aV 23 (cellsOf (aV 0 (Out.res o)))), avD (aV 24 (cellsOf (aV 0 (Out.res o)))), avD (aV 25 (cellsOf (aV 0 (Out.res o)))), avD (aV 26 (cellsOf (aV 0 (Out.res o)))), avD (aV 27 (cellsOf (aV 0 (Out.res o)))), D.sl aB.ks (oZ 1 (Out.rws o)), avD (aV 29 (cellsOf (aV 0 (Out.res o)))), avD (aV 30 (cellsOf (aV 0 (Out.res o)))), D.sl aH.ks (oZ 2 (Out.rws o)), D.sl [.str] (oZ 3 (Out.rws o)), D.sl [.int .i64] (oZ 4 (Out.rws o))]) h)) (aK.inj (congrArg (fun o => List.map avD (abC 0 (Out.bxs o))) h))
theorem adb : ∀ y z, iA y = iA z → y = z := fun y z h => match y, z, h with
 | .inl a, .inl b, h => congrArg Sum.inl (aP.inj (congrArg (fun o => List.map avD (cellsOf (ah7 (Out.aez o)))) h))
 | .inr a, .inr b, h => congrArg Sum.inr (acq a b h)
 | .inl _, .inr _, h => Bool.noConfusion (congrArg Out.pH h : true = false)
 | .inr _, .inl _, h => Bool.noConfusion (congrArg Out.pH h : false = true)
def qS : (aA × aK) → Out := fun r => .ret [.agg [.d (.int .i64 r.1.Kind), .d (.int .i64 r.1.ID), .d (.bool r.1.Dup), .d (.str r.1.Message.Topic), .d (.str r.1.Message.Payload), .d (.int .i64 r.1.Message.Level), .d (.bool r.1.Message.Retain), .d (.int .i64 r.1.Message.Priority), .d (.int .i64 r.1.Message.Expires), .d (.str r.1.Message.From), .d (.int .i64 r.1.Message.Seq), .d (.sl aB.ks (List.map aB.enc r.1.Message.Props)), .d (.str r.1.Client), .d (.str r.1.User), .d (.bool r.1.Clean), .d (.int .i64 r.1.Keep), .d (.int .i64 r.1.Expiry), .d (.int .i64 r.1.Window), .d (.bool r.1.Will.Set), .d (.int .i64 r.1.Will.Delay), .d (.str r.1.Will.Message.Topic), .d (.str r.1.Will.Message.Payload), .d (.int .i64 r.1.Will.Message.Level), .d (.bool r.1.Will.Message.Retain), .d (.int .i64 r.1.Will.Message.Priority), .d (.int .i64 r.1.Will.Message.Expires), .d (.str r.1.Will.Message.From), .d (.int .i64 r.1.Will.Message.Seq), .d (.sl aB.ks (List.map aB.enc r.1.Will.Message.Props)), .d (.bool r.1.Present), .d (.int .i64 r.1.Code), .row 0, .row 1, .row 2]] [⟨101, (aK.avs r.2)⟩] [⟨aH.ks, 112, 32, (List.map aH.enc r.1.Subs)⟩, ⟨[.str], 9, 16, (List.map bB r.1.Filters)⟩, ⟨[.int .i64], 3, 8, (List.map (aN .i64) r.1.Codes)⟩]
def gL : (aP ⊕ (aA × aK)) → Out := fun s => match s with | .inl q => .pan (.ifc 98 (aP.av q)) | .inr r => qS r
theorem adz : ∀ y z, qS y = qS z → y = z := fun y z h => Prod.ext (aA.inj (congrArg (fun o => [avD (aV 0 (cellsOf (aV 0 (Out.res o)))), avD (aV 1 (cellsOf (aV 0 (Out.res o)))), avD (aV 2 (cellsOf (aV 0 (Out.res o)))), avD (aV 3 (cellsOf (aV 0 (Out.res o)))), avD (aV 4 (cellsOf (aV 0 (Out.res o)))), avD (aV 5 (cellsOf (aV 0 (Out.res o)))), avD (aV 6 (cellsOf (aV 0 (Out.res o)))), avD (aV 7 (cellsOf (aV 0 (Out.res o)))), avD (aV 8 (cellsOf (aV 0 (Out.res o)))), avD (aV 9 (cellsOf (aV 0 (Out.res o)))), avD (aV 10 (cellsOf (aV 0 (Out.res o)))), avD (aV 11 (cellsOf (aV 0 (Out.res o)))), avD (aV 12 (cellsOf (aV 0 (Out.res o)))), avD (aV 13 (cellsOf (aV 0 (Out.res o)))), avD (aV 14 (cellsOf (aV 0 (Out.res o)))), avD (aV 15 (cellsOf (aV 0 (Out.res o)))), avD (aV 16 (cellsOf (aV 0 (Out.res o)))), avD (aV 17 (cellsOf (aV 0 (Out.res o)))), avD (aV 18 (cellsOf (aV 0 (Out.res o)))), avD (aV 19 (cellsOf (aV 0 (Out.res o)))), avD (aV 20 (cellsOf (aV 0 (Out.res o)))), avD (aV 21 (cellsOf (aV 0 (Out.res o)))), avD (aV 22 (cellsOf (aV 0 (Out.res o)))), avD (aV 23 (cellsOf (aV 0 (Out.res o)))), avD (aV 24 (cellsOf (aV 0 (Out.res o)))), avD (aV 25 (cellsOf (aV 0 (Out.res o)))), avD (aV 26 (cellsOf (aV 0 (Out.res o)))), avD (aV 27 (cellsOf (aV 0 (Out.res o)))), avD (aV 28 (cellsOf (aV 0 (Out.res o)))), avD (aV 29 (cellsOf (aV 0 (Out.res o)))), avD (aV 30 (cellsOf (aV 0 (Out.res o)))), D.sl aH.ks (oZ 0 (Out.rws o)), D.sl [.str] (oZ 1 (Out.rws o)), D.sl [.int .i64] (oZ 2 (Out.rws o))]) h)) (aK.inj (congrArg (fun o => List.map avD (abC 0 (Out.bxs o))) h))
theorem nF : ∀ y z, gL y = gL z → y = z := fun y z h => match y, z, h with
 | .inl a, .inl b, h => congrArg Sum.inl (aP.inj (congrArg (fun o => List.map avD (cellsOf (ah7 (Out.aez o)))) h))
 | .inr a, .inr b, h => congrArg Sum.inr (adz a b h)
 | .inl _, .inr _, h => Bool.noConfusion (congrArg Out.pH h : true = false)
 | .inr _, .inl _, h => Bool.noConfusion (congrArg Out.pH h : false = true)
def pZ : (aA × aK) → Out := fun r => .ret [.agg [.d (.int .i64 r.1.Kind), .d (.int .i64 r.1.ID), .d (.bool r.1.Dup), .d (.str r.1.Message.Topic), .d (.str r.1.Message.Payload), .d (.int .i64 r.1.Message.Level), .d (.bool r.1.Message.Retain), .d (.int .i64 r.1.Message.Priority), .d (.int .i64 r.1.Message.Expires), .d (.str r.1.Message.From), .d (.int .i64 r.1.Message.Seq), .d (.sl aB.ks (List.map aB.enc r.1.Message.Props)), .d (.str r.1.Client), .d (.str r.1.User), .d (.bool r.1.Clean), .d (.int .i64 r.1.Keep), .d (.int .i64 r.1.Expiry), .d (.int .i64 r.1.Window), .d (.bool r.1.Will.Set), .d (.int .i64 r.1.Will.Delay), .d (.str r.1.Will.Message.Topic), .d (.str r.1.Will.Message.Payload), .d (.int .i64 r.1.Will.Message.Level), .d (.bool r.1.Will.Message.Retain), .d (.int .i64 r.1.Will.Message.Priority), .d (.int .i64 r.1.Will.Message.Expires), .d (.str r.1.Will.Message.From), .d (.int .i64 r.1.Will.Message.Seq), .d (.sl aB.ks (List.map aB.enc r.1.Will.Message.Props)), .d (.bool r.1.Present), .d (.int .i64 r.1.Code), .row 0, .row 1, .row 2]] [⟨101, (aK.avs r.2)⟩] [⟨aH.ks, 112, 32, (List.map aH.enc r.1.Subs)⟩, ⟨[.str], 9, 16, (List.map bB r.1.Filters)⟩, ⟨[.int .i64], 3, 8, (List.map (aN .i64) r.1.Codes)⟩]
def iL : (aP ⊕ (aA × aK)) → Out := fun s => match s with | .inl q => .pan (.ifc 98 (aP.av q)) | .inr r => pZ r
theorem acX : ∀ y z, pZ y = pZ z → y = z := fun y z h => Prod.ext (aA.inj (congrArg (fun o => [avD (aV 0 (cellsOf (aV 0 (Out.res o)))), avD (aV 1 (cellsOf (aV 0 (Out.res o)))), avD (aV 2 (cellsOf (aV 0 (Out.res o)))), avD (aV 3 (cellsOf (aV 0 (Out.res o)))), avD (aV 4 (cellsOf (aV 0 (Out.res o)))), avD (aV 5 (cellsOf (aV 0 (Out.res o)))), avD (aV 6 (cellsOf (aV 0 (Out.res o)))), avD (aV 7 (cellsOf (aV 0 (Out.res o)))), avD (aV 8 (cellsOf (aV 0 (Out.res o)))), avD (aV 9 (cellsOf (aV 0 (Out.res o)))), avD (aV 10 (cellsOf (aV 0 (Out.res o)))), avD (aV 11 (cellsOf (aV 0 (Out.res o)))), avD (aV 12 (cellsOf (aV 0 (Out.res o)))), avD (aV 13 (cellsOf (aV 0 (Out.res o)))), avD (aV 14 (cellsOf (aV 0 (Out.res o)))), avD (aV 15 (cellsOf (aV 0 (Out.res o)))), avD (aV 16 (cellsOf (aV 0 (Out.res o)))), avD (aV 17 (cellsOf (aV 0 (Out.res o)))), avD (aV 18 (cellsOf (aV 0 (Out.res o)))), avD (aV 19 (cellsOf (aV 0 (Out.res o)))), avD (aV 20 (cellsOf (aV 0 (Out.res o)))), avD (aV 21 (cellsOf (aV 0 (Out.res o)))), avD (aV 22 (cellsOf (aV 0 (Out.res o)))), avD (aV 23 (cellsOf (aV 0 (Out.res o)))), avD (aV 24 (cellsOf (aV 0 (Out.res o)))), avD (aV 25 (cellsOf (aV 0 (Out.res o)))), avD (aV 26 (cellsOf (aV 0 (Out.res o)))), avD (aV 27 (cellsOf (aV 0 (Out.res o)))), avD (aV 28 (cellsOf (aV 0 (Out.res o)))), avD (aV 29 (cellsOf (aV 0 (Out.res o)))), avD (aV 30 (cellsOf (aV 0 (Out.res o)))), D.sl aH.ks (oZ 0 (Out.rws o)), D.sl [.str] (oZ 1 (Out.rws o)), D.sl [.int .i64] (oZ 2 (Out.rws o))]) h)) (aK.inj (congrArg (fun o => List.map avD (abC 0 (Out.bxs o))) h))
theorem wW : ∀ y z, iL y = iL z → y = z := fun y z h => match y, z, h with
 | .inl a, .inl b, h => congrArg Sum.inl (aP.inj (congrArg (fun o => List.map avD (cellsOf (ah7 (Out.aez o)))) h))
 | .inr a, .inr b, h => congrArg Sum.inr (acX a b h)
 | .inl _, .inr _, h => Bool.noConfusion (congrArg Out.pH h : true = false)
 | .inr _, .inl _, h => Bool.noConfusion (congrArg Out.pH h : false = true)
def qL : (aA × Int) → Out := fun r => .ret [.agg [.d (.int .i64 r.1.Kind), .d (.int .i64 r.1.ID), .d (.bool r.1.Dup), .d (.str r.1.Message.Topic), .d (.str r.1.Message.Payload), .d (.int .i64 r.1.Message.Level), .d (.bool r.1.Message.Retain), .d (.int .i64 r.1.Message.Priority), .d (.int .i64 r.1.Message.Expires), .d (.str r.1.Message.From), .d (.int .i64 r.1.Message.Seq), .d (.sl aB.ks (List.map aB.enc r.1.Message.Props)), .d (.str r.1.Client), .d (.str r.1.User), .d (.bool r.1.Clean), .d (.int .i64 r.1.Keep), .d (.int .i64 r.1.Expiry), .d (.int .i64 r.1.Window), .d (.bool r.1.Will.Set), .d (.int .i64 r.1.Will.Delay), .d (.str r.1.Will.Message.Topic), .d (.str r.1.Will.Message.Payload), .d (.int .i64 r.1.Will.Message.Level), .d (.bool r.1.Will.Message.Retain), .d (.int .i64 r.1.Will.Message.Priority), .d (.int .i64 r.1.Will.Message.Expires), .d (.str r.1.Will.Message.From), .d (.int .i64 r.1.Will.Message.Seq), .d (.sl aB.ks (List.map aB.enc r.1.Will.Message.Props)), .d (.bool r.1.Present), .d (.int .i64 r.1.Code), .row 0, .row 1, .row 2], .d (.int .i64 r.2)] [] [⟨aH.ks, 112, 32, (List.map aH.enc r.1.Subs)⟩, ⟨[.str], 9, 16, (List.map bB r.1.Filters)⟩, ⟨[.int .i64], 3, 8, (List.map (aN .i64) r.1.Codes)⟩]
theorem amY : ∀ y z, qL y = qL z → y = z := fun y z h => Prod.ext (aA.inj (congrArg (fun o => [avD (aV 0 (cellsOf (aV 0 (Out.res o)))), avD (aV 1 (cellsOf (aV 0 (Out.res o)))), avD (aV 2 (cellsOf (aV 0 (Out.res o)))), avD (aV 3 (cellsOf (aV 0 (Out.res o)))), avD (aV 4 (cellsOf (aV 0 (Out.res o)))), avD (aV 5 (cellsOf (aV 0 (Out.res o)))), avD (aV 6 (cellsOf (aV 0 (Out.res o)))), avD (aV 7 (cellsOf (aV 0 (Out.res o)))), avD (aV 8 (cellsOf (aV 0 (Out.res o)))), avD (aV 9 (cellsOf (aV 0 (Out.res o)))), avD (aV 10 (cellsOf (aV 0 (Out.res o)))), avD (aV 11 (cellsOf (aV 0 (Out.res o)))), avD (aV 12 (cellsOf (aV 0 (Out.res o)))), avD (aV 13 (cellsOf (aV 0 (Out.res o)))), avD (aV 14 (cellsOf (aV 0 (Out.res o)))), avD (aV 15 (cellsOf (aV 0 (Out.res o)))), avD (aV 16 (cellsOf (aV 0 (Out.res o)))), avD (aV 17 (cellsOf (aV 0 (Out.res o)))), avD (aV 18 (cellsOf (aV 0 (Out.res o)))), avD (aV 19 (cellsOf (aV 0 (Out.res o)))), avD (aV 20 (cellsOf (aV 0 (Out.res o)))), avD (aV 21 (cellsOf (aV 0 (Out.res o)))), avD (aV 22 (cellsOf (aV 0 (Out.res o)))), avD (aV 23 (cellsOf (aV 0 (Out.res o)))), avD (aV 24 (cellsOf (aV 0 (Out.res o)))), avD (aV 25 (cellsOf (aV 0 (Out.res o)))), avD (aV 26 (cellsOf (aV 0 (Out.res o)))), avD (aV 27 (cellsOf (aV 0 (Out.res o)))), avD (aV 28 (cellsOf (aV 0 (Out.res o)))), avD (aV 29 (cellsOf (aV 0 (Out.res o)))), avD (aV 30 (cellsOf (aV 0 (Out.res o)))), D.sl aH.ks (oZ 0 (Out.rws o)), D.sl [.str] (oZ 1 (Out.rws o)), D.sl [.int .i64] (oZ 2 (Out.rws o))]) h)) (congrArg (fun o => bC (avD (aV 1 (Out.res o)))) h)
def fD : ((List aA) × Int) → Out := fun r => .ret [.row 0, .d (.int .i64 r.2)] [] [⟨aA.ks, 53, 416, (List.map aA.enc r.1)⟩]
theorem acZ : ∀ y z, fD y = fD z → y = z := fun y z h => Prod.ext (map_inj aA.inj (congrArg (fun o => oZ 0 (Out.rws o)) h)) (congrArg (fun o => bC (avD (aV 1 (Out.res o)))) h)
def dQ : ((List aA) × aI × Int) → Out := fun r => .ret [.row 0, aI.av r.2.1, .d (.int .i64 r.2.2)] [] [⟨aA.ks, 53, 416, (List.map aA.enc r.1)⟩]
theorem m7 : ∀ y z, dQ y = dQ z → y = z := fun y z h => Prod.ext (map_inj aA.inj (congrArg (fun o => oZ 0 (Out.rws o)) h)) (Prod.ext (aI.inj (congrArg (fun o => List.map avD (cellsOf (aV 1 (Out.res o)))) h)) (congrArg (fun o => bC (avD (aV 2 (Out.res o)))) h))
def eY : ((List Str)) → Out := fun r => .ret [.row 0] [] [⟨[.str], 9, 16, (List.map bB r)⟩]
theorem aao : ∀ y z, eY y = eY z → y = z := fun y z h => map_inj alx (congrArg (fun o => oZ 0 (Out.rws o)) h)
def good : FuncId → Out → Prop := fun f o => match f with | 15 => ∃ x, eG x = o | 85 => ∃ x, packet_is_out x = o | 87 => ∃ x, eF x = o | 113 => ∃ x, m0 x = o | 114 => ∃ x, packet_is_out x = o | 115 => ∃ x, packet_is_out x = o | 116 => ∃ x, packet_is_out x = o | 117 => ∃ x, packet_is_out x = o | 86 => ∃ x, packet_is_out x = o | 118 => ∃ x, packet_is_out x = o | 139 => ∃ x, packet_is_out x = o | 132 => ∃ x, packet_is_out x = o | 133 => ∃ x, packet_is_out x = o | 140 => ∃ x, packet_is_out x = o | 134 => ∃ x, aJ x = o | 119 => ∃ x, aJ x = o | 88 => ∃ x, aJ x = o | 89 => ∃ x, packet_is_out x = o | 91 => ∃ x, aJ x = o | 90 => ∃ x, aJ x = o | 120 => ∃ x, aJ x = o | 144 => ∃ x, packet_is_out x = o | 145 => ∃ x, eB x = o | 141 => ∃ x, eB x = o | 150 => ∃ x, aJ x = o | 148 => ∃ x, aJ x = o | 146 => ∃ x, cM x = o | 142 => ∃ x, cM x = o | 156 => ∃ x, aJ x = o | 155 => ∃ x, aJ x = o | 149 => ∃ x, cY x = o | 147 => ∃ x, cY x = o | 143 => ∃ x, cY x = o | 136 => ∃ x, packet_is_out x = o | 137 => ∃ x, packet_is_out x = o | 135 => ∃ x, cM x = o | 121 => ∃ x, kE x = o | 92 => ∃ x, aJ x = o | 93 => ∃ x, aJ x = o | 94 => ∃ x, aJ x = o | 59 => ∃ x, aJ x = o | 34 => ∃ x, aR x = o | 65 => ∃ x, lH x = o | 33 => ∃ x, aR x = o | 20 => ∃ x, aR x = o | 95 => ∃ x, aR x = o | 61 => ∃ x, aJ x = o | 62 => ∃ x, aR x = o | 60 => ∃ x, aR x = o | 63 => ∃ x, aR x = o | 64 => ∃ x, aR x = o | 32 => ∃ x, dB x = o | 19 => ∃ x, dB x = o | 35 => ∃ x, aJ x = o | 21 => ∃ x, aR x = o | 9 => ∃ x, dY x = o | 70 => ∃ x, aJ x = o | 41 => ∃ x, cA x = o | 40 => ∃ x, iM x = o | 25 => ∃ x, fJ x = o | 17 => ∃ x, cA x = o | 73 => ∃ x, gS x = o | 72 => ∃ x, cQ x = o | 138 => ∃ x, gR x = o | 122 => ∃ x, eK x = o | 99 => ∃ x, dI x = o | 123 => ∃ x, packet_is_out x = o | 124 => ∃ x, fI x = o | 100 => ∃ x, eE x = o | 98 => ∃ x, iA x = o | 101 => ∃ x, gL x = o | 74 => ∃ x, iL x = o | 42 => ∃ x, qL x = o | 26 => ∃ x, fD x = o | 18 => ∃ x, eG x = o | 12 => ∃ x, dQ x = o | 8 => ∃ x, packet_is_out x = o | 7 => ∃ x, packet_is_out x = o | 52 => ∃ x, eF x = o | 79 => ∃ x, packet_is_out x = o | 47 => ∃ x, packet_is_out x = o | 48 => ∃ x, packet_is_out x = o | 49 => ∃ x, packet_is_out x = o | 50 => ∃ x, packet_is_out x = o | 51 => ∃ x, packet_is_out x = o | 30 => ∃ x, packet_is_out x = o | 106 => ∃ x, packet_is_out x = o | 107 => ∃ x, packet_is_out x = o | 80 => ∃ x, packet_is_out x = o | 129 => ∃ x, packet_is_out x = o | 131 => ∃ x, eY x = o | 128 => ∃ x, packet_is_out x = o | 108 => ∃ x, packet_is_out x = o | 130 => ∃ x, packet_is_out x = o | 109 => ∃ x, aJ x = o | 82 => ∃ x, aJ x = o | 81 => ∃ x, aJ x = o | 53 => ∃ x, aJ x = o | 56 => ∃ x, aJ x = o | 54 => ∃ x, aJ x = o | 55 => ∃ x, packet_is_out x = o | 57 => ∃ x, aJ x = o | 112 => ∃ x, packet_is_out x = o | 111 => ∃ x, packet_is_out x = o | 110 => ∃ x, cM x = o | 84 => ∃ x, packet_is_out x = o | 83 => ∃ x, aJ x = o | 58 => ∃ x, aJ x = o | 31 => ∃ x, aJ x = o | 16 => ∃ x, packet_is_out x = o | 14 => ∃ x, packet_is_out x = o | 5 => ∃ x, packet_is_out x = o | _ => False
abbrev cT {R : Type} (g : FuncId) (out : R → Out) : Gm R := aky SE good g out
noncomputable abbrev gG : Fun := qH SE good
noncomputable abbrev cP {Q R : Type} (g : FuncId) (out : Q ⊕ R → Out) : Gp Q R := am9 SE good g out
end Te
end PX
