import Derived.Test.YthgmhhgmnegocaaGreatDoorMod
import Derived.Test.YthgmhhgmnegocaaGreatDoorProg
set_option linter.unusedVariables false
set_option linter.unusedSimpArgs false
noncomputable section
namespace PX
open Go
open Md
namespace Te
def tyL : List (Nat × TI) := [(3, ⟨[.int .i64], false, 8, [], 0⟩),
 (4, ⟨[.bool], false, 1, [], 0⟩),
 (5, ⟨[.int .u8], false, 1, [], 0⟩),
 (9, ⟨[.str], false, 16, [], 0⟩),
 (21, ⟨[.int .i32], false, 4, [], 0⟩),
 (22, ⟨[.sl [.str, .str]], false, 24, [], 89⟩),
 (24, ⟨[.str, .str, .int .i64, .bool, .int .i64, .int .i64, .str, .int .i64, .sl [.str, .str]], true, 112, [(0, 9), (1, 9), (2, 3), (3, 4), (4, 3), (5, 3), (6, 9), (7, 3), (8, 22)], 0⟩),
 (26, ⟨[.bool, .int .i64, .str, .str, .int .i64, .bool, .int .i64, .int .i64, .str, .int .i64, .sl [.str, .str]], true, 128, [(0, 4), (1, 3), (2, 24)], 0⟩),
 (27, ⟨[.sl [.str, .int .i64, .bool]], false, 24, [], 53⟩),
 (28, ⟨[.sl [.str]], false, 24, [], 9⟩),
 (29, ⟨[.sl [.int .i64]], false, 24, [], 3⟩),
 (31, ⟨[.int .i64, .int .i64, .bool, .str, .str, .int .i64, .bool, .int .i64, .int .i64, .str, .int .i64, .sl [.str, .str], .str, .str, .bool, .int .i64, .int .i64, .int .i64, .bool, .int .i64, .str, .str, .int .i64, .bool, .int .i64, .int .i64, .str, .int .i64, .sl [.str, .str], .bool, .int .i64, .sl [.str, .int .i64, .bool], .sl [.str], .sl [.int .i64]], true, 416, [(0, 3), (1, 3), (2, 4), (3, 24), (12, 9), (13, 9), (14, 4), (15, 3), (16, 3), (17, 3), (18, 26), (29, 4), (30, 3), (31, 27), (32, 28), (33, 29)], 0⟩),
 (34, ⟨[.sl [.int .u8]], false, 24, [], 5⟩),
 (35, ⟨[.int .i64], false, 8, [], 0⟩),
 (43, ⟨[.sl [.int .i64, .int .i64, .bool, .str, .str, .int .i64, .bool, .int .i64, .int .i64, .str, .int .i64, .sl [.str, .str], .str, .str, .bool, .int .i64, .int .i64, .int .i64, .bool, .int .i64, .str, .str, .int .i64, .bool, .int .i64, .int .i64, .str, .int .i64, .sl [.str, .str], .bool, .int .i64, .sl [.str, .int .i64, .bool], .sl [.str], .sl [.int .i64]]], false, 24, [], 31⟩),
 (53, ⟨[.str, .int .i64, .bool], true, 32, [(0, 9), (1, 3), (2, 4)], 0⟩),
 (57, ⟨[.sl [.bool]], false, 24, [], 4⟩),
 (63, ⟨[.int .i64], true, 8, [(0, 35)], 0⟩),
 (64, ⟨[.ptr], false, 8, [], 0⟩),
 (66, ⟨[.sl [.int .u8], .int .i64], true, 32, [(0, 34), (1, 3)], 0⟩),
 (89, ⟨[.str, .str], true, 32, [(0, 9), (1, 9)], 0⟩),
 (90, ⟨[.int .u64], false, 8, [], 0⟩),
 (104, ⟨[.int .i64, .int .i64, .int .i64, .int .i64, .int .i64, .int .i64, .int .i64, .bool, .bool, .bool, .bool, .str, .str], true, 96, [(0, 3), (1, 3), (2, 3), (3, 3), (4, 3), (5, 3), (6, 3), (7, 4), (8, 4), (9, 4), (10, 4), (11, 9), (12, 9)], 0⟩),
 (109, ⟨[.int .u64], false, 8, [], 0⟩)]
def fnL : List (Nat × Func) := [(51, Go.Proofs.Tryz.f51), (83, Go.Proofs.Tryz.f83), (43, Go.Proofs.Tryz.f43), (44, Go.Proofs.Tryz.f44), (45, Go.Proofs.Tryz.f45), (46, Go.Proofs.Tryz.f46), (47, Go.Proofs.Tryz.f47), (16, Go.Proofs.Tryz.f16), (108, Go.Proofs.Tryz.f108), (109, Go.Proofs.Tryz.f109), (86, Go.Proofs.Tryz.f86), (123, Go.Proofs.Tryz.f123), (125, Go.Proofs.Tryz.f125), (122, Go.Proofs.Tryz.f122), (110, Go.Proofs.Tryz.f110), (124, Go.Proofs.Tryz.f124), (111, Go.Proofs.Tryz.f111), (88, Go.Proofs.Tryz.f88), (87, Go.Proofs.Tryz.f87), (52, Go.Proofs.Tryz.f52), (55, Go.Proofs.Tryz.f55), (53, Go.Proofs.Tryz.f53), (54, Go.Proofs.Tryz.f54), (56, Go.Proofs.Tryz.f56), (114, Go.Proofs.Tryz.f114), (113, Go.Proofs.Tryz.f113), (112, Go.Proofs.Tryz.f112), (90, Go.Proofs.Tryz.f90), (89, Go.Proofs.Tryz.f89), (57, Go.Proofs.Tryz.f57), (23, Go.Proofs.Tryz.f23), (22, Go.Proofs.Tryz.f22), (58, Go.Proofs.Tryz.f58), (60, Go.Proofs.Tryz.f60), (91, Go.Proofs.Tryz.f91), (92, Go.Proofs.Tryz.f92), (93, Go.Proofs.Tryz.f93), (94, Go.Proofs.Tryz.f94), (95, Go.Proofs.Tryz.f95), (59, Go.Proofs.Tryz.f59), (96, Go.Proofs.Tryz.f96), (126, Go.Proofs.Tryz.f126), (115, Go.Proofs.Tryz.f115), (116, Go.Proofs.Tryz.f116), (127, Go.Proofs.Tryz.f127), (117, Go.Proofs.Tryz.f117), (97, Go.Proofs.Tryz.f97), (61, Go.Proofs.Tryz.f61), (62, Go.Proofs.Tryz.f62), (64, Go.Proofs.Tryz.f64), (63, Go.Proofs.Tryz.f63), (98, Go.Proofs.Tryz.f98), (131, Go.Proofs.Tryz.f131), (132, Go.Proofs.Tryz.f132), (128, Go.Proofs.Tryz.f128), (137, Go.Proofs.Tryz.f137), (135, Go.Proofs.Tryz.f135), (133, Go.Proofs.Tryz.f133), (129, Go.Proofs.Tryz.f129), (143, Go.Proofs.Tryz.f143), (142, Go.Proofs.Tryz.f142), (136, Go.Proofs.Tryz.f136), (134, Go.Proofs.Tryz.f134), (130, Go.Proofs.Tryz.f130), (119, Go.Proofs.Tryz.f119), (120, Go.Proofs.Tryz.f120), (118, Go.Proofs.Tryz.f118), (99, Go.Proofs.Tryz.f99), (65, Go.Proofs.Tryz.f65), (66, Go.Proofs.Tryz.f66), (67, Go.Proofs.Tryz.f67), (25, Go.Proofs.Tryz.f25), (69, Go.Proofs.Tryz.f69), (100, Go.Proofs.Tryz.f100), (68, Go.Proofs.Tryz.f68), (26, Go.Proofs.Tryz.f26), (70, Go.Proofs.Tryz.f70), (28, Go.Proofs.Tryz.f28), (29, Go.Proofs.Tryz.f29), (27, Go.Proofs.Tryz.f27), (30, Go.Proofs.Tryz.f30), (31, Go.Proofs.Tryz.f31), (11, Go.Proofs.Tryz.f11), (84, Go.Proofs.Tryz.f84), (49, Go.Proofs.Tryz.f49), (39, Go.Proofs.Tryz.f39), (38, Go.Proofs.Tryz.f38), (121, Go.Proofs.Tryz.f121), (101, Go.Proofs.Tryz.f101), (75, Go.Proofs.Tryz.f75), (102, Go.Proofs.Tryz.f102), (103, Go.Proofs.Tryz.f103), (76, Go.Proofs.Tryz.f76), (74, Go.Proofs.Tryz.f74), (77, Go.Proofs.Tryz.f77), (40, Go.Proofs.Tryz.f40), (14, Go.Proofs.Tryz.f14), (17, Go.Proofs.Tryz.f17), (19, Go.Proofs.Tryz.f19), (10, Go.Proofs.Tryz.f10), (21, Go.Proofs.Tryz.f21), (7, Go.Proofs.Tryz.f7)]
def tmL : List (Nat × (List Sh × List (TypeId × List Sh))) := [(51, ([aA.sh], [])),
 (83, ([.bool], [])),
 (43, ([.bool], [])),
 (44, ([.bool], [])),
 (45, ([.bool], [])),
 (46, ([.bool], [])),
 (47, ([.bool], [])),
 (16, ([.bool], [])),
 (108, ([.bool], [])),
 (109, ([.bool], [])),
 (86, ([.bool], [])),
 (123, ([.bool], [])),
 (125, ([.row 0 [.str] 9 16], [])),
 (122, ([.bool], [])),
 (110, ([.bool], [])),
 (124, ([.bool], [])),
 (111, ([.int .i64], [])),
 (88, ([.int .i64], [])),
 (87, ([.int .i64], [])),
 (52, ([.int .i64], [])),
 (55, ([.int .i64], [])),
 (53, ([.int .i64], [])),
 (54, ([.bool], [])),
 (56, ([.int .i64], [])),
 (114, ([.bool], [])),
 (113, ([.bool], [])),
 (112, ([.str, .str, .bool], [])),
 (90, ([.bool], [])),
 (89, ([.int .i64], [])),
 (57, ([.int .i64], [])),
 (23, ([.int .i64], [])),
 (22, ([.bool], [])),
 (58, ([.bool], [])),
 (60, ([aA.sh], [])),
 (91, ([cG.sh], [])),
 (92, ([.bool], [])),
 (93, ([.bool], [])),
 (94, ([.bool], [])),
 (95, ([.bool], [])),
 (59, ([.bool], [])),
 (96, ([.bool], [])),
 (126, ([.bool], [])),
 (115, ([.bool], [])),
 (116, ([.bool], [])),
 (127, ([.bool], [])),
 (117, ([.int .i64], [])),
 (97, ([.int .i64], [])),
 (61, ([.int .i64], [])),
 (62, ([.bool], [])),
 (64, ([.int .i64], [])),
 (63, ([.int .i64], [])),
 (98, ([.int .i64], [])),
 (131, ([.bool], [])),
 (132, ([.str, .bool], [])),
 (128, ([.str, .bool], [])),
 (137, ([.int .i64], [])),
 (135, ([.int .i64], [])),
 (133, ([.str, .str, .bool], [])),
 (129, ([.str, .str, .bool], [])),
 (143, ([.int .i64], [])),
 (142, ([.int .i64], [])),
 (136, ([.sl [.str]], [])),
 (134, ([.sl [.str]], [])),
 (130, ([.sl [.str]], [])),
 (119, ([.bool], [])),
 (120, ([.bool], [])),
 (118, ([.str, .str, .bool], [])),
 (99, ([.bool, .bool], [])),
 (65, ([.int .i64], [])),
 (66, ([.int .i64], [])),
 (67, ([.int .i64], [])),
 (25, ([.int .i64], [])),
 (69, ([.row 0 [.int .u8] 5 1], [])),
 (100, ([.int .u64], [])),
 (68, ([.row 0 [.int .u8] 5 1], [])),
 (26, ([.row 0 [.int .u8] 5 1], [])),
 (70, ([.row 0 [.int .u8] 5 1], [])),
 (28, ([.int .i64], [])),
 (29, ([.row 0 [.int .u8] 5 1], [])),
 (27, ([.row 0 [.int .u8] 5 1], [])),
 (30, ([.row 0 [.int .u8] 5 1], [])),
 (31, ([.row 0 [.int .u8] 5 1], [])),
 (11, ([.row 0 [.int .u8] 5 1, .int .i64], [])),
 (84, ([.int .i64], [])),
 (49, ([.int .i64, .int .i64, .int .i64], [])),
 (39, ([], [])),
 (38, ([.int .i64], [(66, aI.shs)])),
 (121, ([.str, .int .i64, .int .i64], [])),
 (101, ([.str], [(66, aI.shs)])),
 (75, ([.int .i64], [(66, aI.shs)])),
 (102, ([.bool], [])),
 (103, ([.int .i64], [(66, aI.shs)])),
 (76, ([.agg [.str, .str, .int .i64, .bool, .int .i64, .int .i64, .str, .int .i64, .row 0 aC.ks 89 32]], [(66, aI.shs)])),
 (74, ([.agg [.int .i64, .int .i64, .bool, .str, .str, .int .i64, .bool, .int .i64, .int .i64, .str, .int .i64, .row 0 aC.ks 89 32, .str, .str, .bool, .int .i64, .int .i64, .int .i64, .bool, .int .i64, .str, .str, .int .i64, .bool, .int .i64, .int .i64, .str, .int .i64, .row 1 aC.ks 89 32, .bool, .int .i64, .row 2 aH.ks 53 32, .row 3 [.str] 9 16, .row 4 [.int .i64] 3 8]], [(66, aI.shs)])),
 (77, ([.agg [.int .i64, .int .i64, .bool, .str, .str, .int .i64, .bool, .int .i64, .int .i64, .str, .int .i64, .sl aC.ks, .str, .str, .bool, .int .i64, .int .i64, .int .i64, .bool, .int .i64, .str, .str, .int .i64, .bool, .int .i64, .int .i64, .str, .int .i64, .sl aC.ks, .bool, .int .i64, .row 0 aH.ks 53 32, .row 1 [.str] 9 16, .row 2 [.int .i64] 3 8]], [(66, aI.shs)])),
 (40, ([.agg [.int .i64, .int .i64, .bool, .str, .str, .int .i64, .bool, .int .i64, .int .i64, .str, .int .i64, .sl aC.ks, .str, .str, .bool, .int .i64, .int .i64, .int .i64, .bool, .int .i64, .str, .str, .int .i64, .bool, .int .i64, .int .i64, .str, .int .i64, .sl aC.ks, .bool, .int .i64, .row 0 aH.ks 53 32, .row 1 [.str] 9 16, .row 2 [.int .i64] 3 8]], [(66, aI.shs)])),
 (14, ([.agg [.int .i64, .int .i64, .bool, .str, .str, .int .i64, .bool, .int .i64, .int .i64, .str, .int .i64, .sl aC.ks, .str, .str, .bool, .int .i64, .int .i64, .int .i64, .bool, .int .i64, .str, .str, .int .i64, .bool, .int .i64, .int .i64, .str, .int .i64, .sl aC.ks, .bool, .int .i64, .row 0 aH.ks 53 32, .row 1 [.str] 9 16, .row 2 [.int .i64] 3 8], .int .i64], [])),
 (17, ([.row 0 [.int .u8] 5 1, .int .i64], [])),
 (19, ([.row 0 aA.ks 31 416, .int .i64], [])),
 (10, ([.bool], [])),
 (21, ([.bool], [])),
 (7, ([.bool], []))]
def mvL : List (Nat × Bool) := [(68, true), (77, true)]
def naL : List (Nat × List (List (Option (List CK × TypeId × Nat)))) := [(68, [[some ([.int .u8], 5, 1)], []]), (77, [[], [none, none, none, none, none, none, none, none, none, none, none, none, none, none, none, none, none, none, none, none, none, none, none, none, none, none, none, none, none, none, none, some (aH.ks, 53, 32), some ([.str], 9, 16), some ([.int .i64], 3, 8)]])]
def hlL : List (Nat × List (Nat × Hint)) := [(83, [(4, ⟨[(0, .sl aC.ks), (1, .sl aC.ks), (5, .int .i64)], [], []⟩)]),
 (45, [(4, ⟨[(0, .sl aH.ks), (1, .sl aH.ks), (5, .int .i64)], [], []⟩)]),
 (46, [(4, ⟨[(0, .sl [.str]), (1, .sl [.str]), (5, .int .i64)], [], []⟩)]),
 (47, [(4, ⟨[(0, .sl [.int .i64]), (1, .sl [.int .i64]), (5, .int .i64)], [], []⟩)]),
 (86, [(4, ⟨[(0, .str), (3, .int .i64)], [], []⟩)]),
 (123, [(2, ⟨[(0, .str), (1, .int .u8), (5, .int .i64)], [], []⟩)]),
 (125, [(4, ⟨[(0, .str), (3, .row 3003 [.str] 9 16), (4, .int .i64), (5, .int .i64)], [], []⟩)]),
 (124, [(4, ⟨[(0, .str), (3, .int .i64)], [], []⟩)]),
 (111, [(4, ⟨[(0, .sl aC.ks), (3, .int .i64)], [], []⟩)]),
 (113, [(5, ⟨[(3, .row 3003 [.str] 9 16), (4, .int .i64)], [], []⟩)]),
 (112, [(5, ⟨[(5, .str), (6, .int .i64)], [], []⟩)]),
 (57, [(2, ⟨[(1, .ptr 1000000000 0), (3, .int .i64)], [(31, aA.shs)], []⟩), (8, ⟨[(1, .ptr 1000000000 0), (5, .int .i64)], [(31, aA.shs)], []⟩), (13, ⟨[(1, .ptr 1000000000 0), (6, .int .i64)], [(31, aA.shs)], []⟩)]),
 (22, [(4, ⟨[(0, .sl aA.ks), (3, .int .i64)], [], []⟩)]),
 (92, [(4, ⟨[(3, .ptr 1000000000 0), (71, .sl aC.ks), (72, .int .i64), (73, .int .i64)], [(24, aF.shs)], []⟩)]),
 (93, [(4, ⟨[(1, .sl aH.ks), (12, .sl aH.ks), (13, .int .i64), (14, .int .i64)], [], []⟩)]),
 (94, [(4, ⟨[(1, .sl [.str]), (12, .sl [.str]), (13, .int .i64), (14, .int .i64)], [], []⟩)]),
 (95, [(4, ⟨[(1, .sl [.int .i64]), (12, .sl [.int .i64]), (13, .int .i64), (14, .int .i64)], [], []⟩)]),
 (96, [(4, ⟨[(15, .it 4000)], [], []⟩)]),
 (126, [(5, ⟨[(3, .int .i64), (15, .it 4000)], [], []⟩)]),
 (115, [(4, ⟨[(9, .it 4000)], [], []⟩)]),
 (127, [(4, ⟨[(0, .str), (3, .int .i64)], [], []⟩)]),
 (117, [(4, ⟨[(0, .sl aC.ks), (8, .sl aC.ks), (9, .int .i64), (10, .int .i64)], [], []⟩)]),
 (142, [(6, ⟨[(0, .str), (1, .str), (5, .int .i64)], [], []⟩)]),
 (136, [(11, ⟨[(0, .str), (1, .str), (2, .int .i64), (3, .int .i64), (9, .row 3009 [.str] 9 16), (10, .int .i64)], [], []⟩)]),
 (119, [(6, ⟨[(3, .sl [.str]), (4, .bool), (15, .sl [.str]), (16, .int .i64), (17, .int .i64)], [], []⟩), (9, ⟨[(3, .sl [.str]), (4, .bool), (5, .int .i64), (6, .str), (15, .sl [.str]), (16, .int .i64), (17, .int .i64), (23, .it 4000)], [], []⟩)]),
 (65, [(5, ⟨[(18, .sl aH.ks), (19, .int .i64), (20, .int .i64)], [], []⟩)]),
 (66, [(5, ⟨[(16, .sl [.int .i64]), (17, .int .i64), (18, .int .i64)], [], []⟩)]),
 (67, [(5, ⟨[(18, .sl [.str]), (19, .int .i64), (20, .int .i64)], [], []⟩)]),
 (68, [(2, ⟨[(0, .row 3000 [.int .u8] 5 1), (5, .int .u64)], [], []⟩)]),
 (28, [(3, ⟨[(0, .sl [.bool]), (3, .int .i64), (4, .int .i64)], [], []⟩)]),
 (29, [(8, ⟨[(5, .row 3005 [.int .u8] 5 1), (45, .sl aC.ks), (46, .int .i64), (47, .int .i64)], [], []⟩)]),
 (27, [(4, ⟨[(3, .ptr 1000000000 0), (5, .row 3005 [.int .u8] 5 1), (30, .row 3030 [.int .i64] 3 8), (31, .int .i64), (32, .int .i64)], [(31, aA.shs)], []⟩)]),
 (30, [(3, ⟨[(5, .row 3005 [.int .u8] 5 1), (12, .sl aH.ks), (13, .int .i64), (14, .int .i64)], [], []⟩)]),
 (31, [(3, ⟨[(5, .row 3005 [.int .u8] 5 1), (13, .sl [.str]), (14, .int .i64), (15, .int .i64)], [], []⟩)]),
 (11, [(24, ⟨[(5, .row 3005 [.int .u8] 5 1), (79, .sl [.int .i64]), (80, .int .i64), (81, .int .i64)], [], []⟩)]),
 (49, [(6, ⟨[(0, .sl [.int .u8]), (1, .int .i64), (7, .int .u64), (8, .int .i64)], [], []⟩)]),
 (76, [(11, ⟨[(0, .ptr 2000000000 0), (2, .ptr 1000000000 0), (3, .ptr 1000000001 0), (32, .int .i64), (33, .int .i64)], [(24, aF.shs), (24, [.str, .str, .int .i64, .bool, .int .i64, .int .i64, .str, .int .i64, .row 50108 aC.ks 89 32])], [(66, aI.shs)]⟩)]),
 (77, [(3, ⟨[(0, .ptr 2000000000 0), (4, .ptr 1000000000 0), (5, .ptr 1000000001 0), (9, .int .i64), (10, .int .i64)], [(31, aA.shs), (31, [.int .i64, .int .i64, .bool, .str, .str, .int .i64, .bool, .int .i64, .int .i64, .str, .int .i64, .sl aC.ks, .str, .str, .bool, .int .i64, .int .i64, .int .i64, .bool, .int .i64, .str, .str, .int .i64, .bool, .int .i64, .int .i64, .str, .int .i64, .sl aC.ks, .bool, .int .i64, .row 50131 aH.ks 53 32, .row 50132 [.str] 9 16, .row 50133 [.int .i64] 3 8])], [(66, aI.shs)]⟩)]),
 (17, [(3, ⟨[(4, .row 3004 [.int .u8] 5 1), (9, .sl aA.ks), (10, .int .i64), (11, .int .i64)], [], []⟩)]),
 (19, [(3, ⟨[(0, .sl [.int .u8]), (4, .row 3004 aA.ks 31 416), (5, .int .i64)], [], []⟩)]),
 (21, [(4, ⟨[(0, .sl aA.ks), (1, .sl aA.ks), (5, .int .i64)], [], []⟩)]),
 (7, [(4, ⟨[(0, .sl aA.ks), (3, .int .i64)], [], []⟩)])]
def hrL : List (Nat × List (Nat × Hint)) := [(51, [(4, ⟨[(1, .ptr 1000000000 0), (2, .ptr 1000000001 0), (3, .ptr 1000000002 0)], [(31, aA.shs), (31, aA.shs), (31, aA.shs)], []⟩), (12, ⟨[(1, .ptr 1000000000 0), (2, .ptr 1000000001 0), (3, .ptr 1000000002 0)], [(31, aA.shs), (31, aA.shs), (31, aA.shs)], []⟩), (14, ⟨[(1, .ptr 1000000000 0), (2, .ptr 1000000001 0), (3, .ptr 1000000002 0)], [(31, aA.shs), (31, aA.shs), (31, aA.shs)], []⟩), (16, ⟨[(1, .ptr 1000000000 0), (2, .ptr 1000000001 0), (3, .ptr 1000000002 0)], [(31, aA.shs), (31, aA.shs), (31, aA.shs)], []⟩), (19, ⟨[(1, .ptr 1000000000 0), (2, .ptr 1000000001 0), (3, .ptr 1000000002 0)], [(31, aA.shs), (31, aA.shs), (31, aA.shs)], []⟩), (21, ⟨[(1, .ptr 1000000000 0), (2, .ptr 1000000001 0), (3, .ptr 1000000002 0)], [(31, aA.shs), (31, aA.shs), (31, aA.shs)], []⟩), (23, ⟨[(1, .ptr 1000000000 0), (2, .ptr 1000000001 0), (3, .ptr 1000000002 0)], [(31, aA.shs), (31, aA.shs), (31, aA.shs)], []⟩)]),
 (16, [(3, ⟨[(2, .ptr 1000000000 0), (3, .ptr 1000000001 0)], [(31, aA.shs), (31, aA.shs)], []⟩), (5, ⟨[(2, .ptr 1000000000 0), (3, .ptr 1000000001 0)], [(31, aA.shs), (31, aA.shs)], []⟩)]),
 (86, [(3, ⟨[(0, .str)], [], []⟩)]),
 (124, [(3, ⟨[(0, .str)], [], []⟩)]),
 (88, [(7, ⟨[(1, .ptr 1000000000 0)], [(24, aF.shs)], []⟩), (9, ⟨[(1, .ptr 1000000000 0)], [(24, aF.shs)], []⟩), (11, ⟨[(1, .ptr 1000000000 0)], [(24, aF.shs)], []⟩)]),
 (52, [(3, ⟨[(1, .ptr 1000000000 0)], [(31, aA.shs)], []⟩)]),
 (113, [(9, ⟨[(3, .row 3003 [.str] 9 16), (4, .int .i64)], [], []⟩)]),
 (112, [(7, ⟨[(5, .str), (6, .int .i64)], [], []⟩), (9, ⟨[(5, .str), (6, .int .i64)], [], []⟩)]),
 (89, [(5, ⟨[(1, .ptr 1000000000 0)], [(53, aH.shs)], []⟩)]),
 (23, [(3, ⟨[(1, .ptr 1000000000 0)], [(31, aA.shs)], []⟩), (15, ⟨[(1, .ptr 1000000000 0)], [(31, aA.shs)], []⟩), (17, ⟨[(1, .ptr 1000000000 0)], [(31, aA.shs)], []⟩), (20, ⟨[(1, .ptr 1000000000 0)], [(31, aA.shs)], []⟩)]),
 (92, [(3, ⟨[(2, .ptr 1000000000 0), (3, .ptr 1000000001 0)], [(24, aF.shs), (24, aF.shs)], []⟩)]),
 (96, [(3, ⟨[(0, .str)], [], []⟩), (7, ⟨[(3, .int .i64), (4, .int .i32), (5, .bool), (15, .it 4000)], [], []⟩)]),
 (126, [(3, ⟨[(0, .str)], [], []⟩)]),
 (127, [(3, ⟨[(0, .str)], [], []⟩)]),
 (136, [(7, ⟨[(0, .str), (1, .str), (2, .int .i64), (3, .int .i64)], [], []⟩), (17, ⟨[(0, .str), (9, .row 3009 [.str] 9 16), (10, .int .i64)], [], []⟩)]),
 (28, [(5, ⟨[(0, .sl [.bool]), (3, .int .i64), (4, .int .i64), (10, .int .i64), (11, .bool)], [], []⟩)]),
 (49, [(3, ⟨[(0, .sl [.int .u8]), (1, .int .i64)], [], []⟩), (11, ⟨[(0, .sl [.int .u8]), (1, .int .i64), (7, .int .u64), (8, .int .i64), (9, .int .u8), (39, .int .i64), (40, .bool), (41, .bool), (44, .bool)], [], []⟩)])]
def eqL : List (Nat × List CK) := [(53, [.str, .int .i64, .bool]), (89, [.str, .str]), (104, [.int .i64, .int .i64, .int .i64, .int .i64, .int .i64, .int .i64, .int .i64, .bool, .bool, .bool, .bool, .str, .str])]
def prL : List (Nat × Prim) := [(144, .indexByte), (148, .countByte)]
def apd : GuardI := guardOf Go.Proofs.Tryz.f14 Go.Proofs.Tryz.f37 63
def lbL : List (Nat × LibK) := [(14, .guard apd)]
def pvL : List (Nat × Sh) := [(39, .ifc 63 aN.sh), (38, .ifc 63 aN.sh), (101, .ifc 63 aN.sh), (75, .ifc 63 aN.sh), (103, .ifc 63 aN.sh), (76, .ifc 63 aN.sh), (74, .ifc 63 aN.sh), (77, .ifc 63 aN.sh), (40, .ifc 63 aN.sh)]
def SE : Env := { fn := assoc fnL, ty := assoc tyL, tm := assoc tmL, mv := fun f => match assoc mvL f with | some b => b | none => false, eqt := assoc eqL, pv := assoc pvL, hl := fun f r => match assoc hlL f with | some l => assoc l r | none => none, hr := fun f r => match assoc hrL f with | some l => assoc l r | none => none, prim := assoc prL, lib := assoc lbL, na := fun f => match assoc naL f with | some l => l | none => [] }
def brokerref06_Used_out : (aA) → Out := fun r => .ret [aA.av r] [] []
theorem brokerref06_Used_inj : ∀ y z, brokerref06_Used_out y = brokerref06_Used_out z → y = z := fun y z h => aA.inj (congrArg (fun o => List.map avD (cellsOf (aT 0 (Out.res o)))) h)
def brokerref05_SameProps_out : (Bool) → Out := fun r => .ret [.d (.bool r)] [] []
theorem brokerref05_SameProps_inj : ∀ y z, brokerref05_SameProps_out y = brokerref05_SameProps_out z → y = z := fun y z h => congrArg (fun o => bT (avD (aT 0 (Out.res o)))) h
def eQ : ((List Str)) → Out := fun r => .ret [.row 0] [] [⟨[.str], 9, 16, (List.map aY r)⟩]
theorem y8 : ∀ y z, eQ y = eQ z → y = z := fun y z h => map_inj akx (congrArg (fun o => qA 0 (Out.rws o)) h)
def brokerref05_Props_out : (Int) → Out := fun r => .ret [.d (.int .i64 r)] [] []
theorem brokerref05_Props_inj : ∀ y z, brokerref05_Props_out y = brokerref05_Props_out z → y = z := fun y z h => congrArg (fun o => aX (avD (aT 0 (Out.res o)))) h
def brokerref01_Shared_out : (Str × Str × Bool) → Out := fun r => .ret [.d (.str r.1), .d (.str r.2.1), .d (.bool r.2.2)] [] []
theorem brokerref01_Shared_inj : ∀ y z, brokerref01_Shared_out y = brokerref01_Shared_out z → y = z := fun y z h => Prod.ext (congrArg (fun o => bJ (avD (aT 0 (Out.res o)))) h) (Prod.ext (congrArg (fun o => bJ (avD (aT 1 (Out.res o)))) h) (congrArg (fun o => bT (avD (aT 2 (Out.res o)))) h))
def lZ : (cG) → Out := fun r => .ret [cG.av r] [] []
theorem ab5 : ∀ y z, lZ y = lZ z → y = z := fun y z h => cG.inj (congrArg (fun o => List.map avD (cellsOf (aT 0 (Out.res o)))) h)
def dU : (Str × Bool) → Out := fun r => .ret [.d (.str r.1), .d (.bool r.2)] [] []
theorem wU : ∀ y z, dU y = dU z → y = z := fun y z h => Prod.ext (congrArg (fun o => bJ (avD (aT 0 (Out.res o)))) h) (congrArg (fun o => bT (avD (aT 1 (Out.res o)))) h)
def cQ : ((List Str)) → Out := fun r => .ret [.d (.sl [.str] (List.map aY r))] [] []
theorem uY : ∀ y z, cQ y = cQ z → y = z := fun y z h => map_inj akx (congrArg (fun o => dSl (avD (aT 0 (Out.res o)))) h)
def jR : (Bool × Bool) → Out := fun r => .ret [.d (.bool r.1), .d (.bool r.2)] [] []
theorem acD : ∀ y z, jR y = jR z → y = z := fun y z h => Prod.ext (congrArg (fun o => bT (avD (aT 0 (Out.res o)))) h) (congrArg (fun o => bT (avD (aT 1 (Out.res o)))) h)
def aP : ((List Int)) → Out := fun r => .ret [.row 0] [] [⟨[.int .u8], 5, 1, (List.map (aO .u8) r)⟩]
theorem aW : ∀ y z, aP y = aP z → y = z := fun y z h => map_inj (adE _) (congrArg (fun o => qA 0 (Out.rws o)) h)
def kM : (Int) → Out := fun r => .ret [.d (.int .u64 r)] [] []
theorem ahr : ∀ y z, kM y = kM z → y = z := fun y z h => congrArg (fun o => aX (avD (aT 0 (Out.res o)))) h
def bV : ((List Int) × Int) → Out := fun r => .ret [.row 0, .d (.int .i64 r.2)] [] [⟨[.int .u8], 5, 1, (List.map (aO .u8) r.1)⟩]
theorem iC : ∀ y z, bV y = bV z → y = z := fun y z h => Prod.ext (map_inj (adE _) (congrArg (fun o => qA 0 (Out.rws o)) h)) (congrArg (fun o => aX (avD (aT 1 (Out.res o)))) h)
def cS : (Int × Int × Int) → Out := fun r => .ret [.d (.int .i64 r.1), .d (.int .i64 r.2.1), .d (.int .i64 r.2.2)] [] []
theorem rL : ∀ y z, cS y = cS z → y = z := fun y z h => Prod.ext (congrArg (fun o => aX (avD (aT 0 (Out.res o)))) h) (Prod.ext (congrArg (fun o => aX (avD (aT 1 (Out.res o)))) h) (congrArg (fun o => aX (avD (aT 2 (Out.res o)))) h))
def abd : (Unit) → Out := fun r => .ret [] [] []
def gB : (aN ⊕ (Unit)) → Out := fun s => match s with | .inl q => .pan (.ifc 63 (aN.av q)) | .inr r => abd r
theorem amm : ∀ y z, abd y = abd z → y = z := fun y z h => rfl
theorem iR : ∀ y z, gB y = gB z → y = z := fun y z h => match y, z, h with
 | .inl a, .inl b, h => congrArg Sum.inl (aN.inj (congrArg (fun o => List.map avD (cellsOf (agI (Out.aej o)))) h))
 | .inr a, .inr b, h => congrArg Sum.inr (amm a b h)
 | .inl _, .inr _, h => Bool.noConfusion (congrArg Out.oL h : true = false)
 | .inr _, .inl _, h => Bool.noConfusion (congrArg Out.oL h : false = true)
def rH : (Int × aI) → Out := fun r => .ret [.d (.int .i64 r.1)] [⟨66, (aI.avs r.2)⟩] []
def cH : (aN ⊕ (Int × aI)) → Out := fun s => match s with | .inl q => .pan (.ifc 63 (aN.av q)) | .inr r => rH r
theorem aec : ∀ y z, rH y = rH z → y = z := fun y z h => Prod.ext (congrArg (fun o => aX (avD (aT 0 (Out.res o)))) h) (aI.inj (congrArg (fun o => List.map avD (aaP 0 (Out.bxs o))) h))
theorem bR : ∀ y z, cH y = cH z → y = z := fun y z h => match y, z, h with
 | .inl a, .inl b, h => congrArg Sum.inl (aN.inj (congrArg (fun o => List.map avD (cellsOf (agI (Out.aej o)))) h))
 | .inr a, .inr b, h => congrArg Sum.inr (aec a b h)
 | .inl _, .inr _, h => Bool.noConfusion (congrArg Out.oL h : true = false)
 | .inr _, .inl _, h => Bool.noConfusion (congrArg Out.oL h : false = true)
def gA : (Str × Int × Int) → Out := fun r => .ret [.d (.str r.1), .d (.int .i64 r.2.1), .d (.int .i64 r.2.2)] [] []
theorem ack : ∀ y z, gA y = gA z → y = z := fun y z h => Prod.ext (congrArg (fun o => bJ (avD (aT 0 (Out.res o)))) h) (Prod.ext (congrArg (fun o => aX (avD (aT 1 (Out.res o)))) h) (congrArg (fun o => aX (avD (aT 2 (Out.res o)))) h))
def p9 : (Str × aI) → Out := fun r => .ret [.d (.str r.1)] [⟨66, (aI.avs r.2)⟩] []
def eC : (aN ⊕ (Str × aI)) → Out := fun s => match s with | .inl q => .pan (.ifc 63 (aN.av q)) | .inr r => p9 r
theorem ac2 : ∀ y z, p9 y = p9 z → y = z := fun y z h => Prod.ext (congrArg (fun o => bJ (avD (aT 0 (Out.res o)))) h) (aI.inj (congrArg (fun o => List.map avD (aaP 0 (Out.bxs o))) h))
theorem eS : ∀ y z, eC y = eC z → y = z := fun y z h => match y, z, h with
 | .inl a, .inl b, h => congrArg Sum.inl (aN.inj (congrArg (fun o => List.map avD (cellsOf (agI (Out.aej o)))) h))
 | .inr a, .inr b, h => congrArg Sum.inr (ac2 a b h)
 | .inl _, .inr _, h => Bool.noConfusion (congrArg Out.oL h : true = false)
 | .inr _, .inl _, h => Bool.noConfusion (congrArg Out.oL h : false = true)
def pT : (Int × aI) → Out := fun r => .ret [.d (.int .i64 r.1)] [⟨66, (aI.avs r.2)⟩] []
def dA : (aN ⊕ (Int × aI)) → Out := fun s => match s with | .inl q => .pan (.ifc 63 (aN.av q)) | .inr r => pT r
theorem acs : ∀ y z, pT y = pT z → y = z := fun y z h => Prod.ext (congrArg (fun o => aX (avD (aT 0 (Out.res o)))) h) (aI.inj (congrArg (fun o => List.map avD (aaP 0 (Out.bxs o))) h))
theorem j4 : ∀ y z, dA y = dA z → y = z := fun y z h => match y, z, h with
 | .inl a, .inl b, h => congrArg Sum.inl (aN.inj (congrArg (fun o => List.map avD (cellsOf (agI (Out.aej o)))) h))
 | .inr a, .inr b, h => congrArg Sum.inr (acs a b h)
 | .inl _, .inr _, h => Bool.noConfusion (congrArg Out.oL h : true = false)
 | .inr _, .inl _, h => Bool.noConfusion (congrArg Out.oL h : false = true)
def pP : (Int × aI) → Out := fun r => .ret [.d (.int .i64 r.1)] [⟨66, (aI.avs r.2)⟩] []
def fC : (aN ⊕ (Int × aI)) → Out := fun s => match s with | .inl q => .pan (.ifc 63 (aN.av q)) | .inr r => pP r
theorem acB : ∀ y z, pP y = pP z → y = z := fun y z h => Prod.ext (congrArg (fun o => aX (avD (aT 0 (Out.res o)))) h) (aI.inj (congrArg (fun o => List.map avD (aaP 0 (Out.bxs o))) h))
theorem wS : ∀ y z, fC y = fC z → y = z := fun y z h => match y, z, h with
 | .inl a, .inl b, h => congrArg Sum.inl (aN.inj (congrArg (fun o => List.map avD (cellsOf (agI (Out.aej o)))) h))
 | .inr a, .inr b, h => congrArg Sum.inr (acB a b h)
 | .inl _, .inr _, h => Bool.noConfusion (congrArg Out.oL h : true = false)
 | .inr _, .inl _, h => Bool.noConfusion (congrArg Out.oL h : false = true)
def oG : (aF × aI) → Out := fun r => .ret [.agg [.d (.str r.1.Topic), .d (.str r.1.Payload), .d (.int .i64 r.1.Level), .d (.bool r.1.Retain), .d (.int .i64 r.1.Priority), .d (.int .i64 r.1.Expires), .d (.str r.1.From), .d (.int .i64 r.1.Seq), .row 0]] [⟨66, (aI.avs r.2)⟩] [⟨aC.ks, 89, 32, (List.map aC.enc r.1.Props)⟩]
def dX : (aN ⊕ (aF × aI)) → Out := fun s => match s with | .inl q => .pan (.ifc 63 (aN.av q)) | .inr r => oG r
theorem abj : ∀ y z, oG y = oG z → y = z := fun y z h => Prod.ext (aF.inj (congrArg (fun o => [avD (aT 0 (cellsOf (aT 0 (Out.res o)))), avD (aT 1 (cellsOf (aT 0 (Out.res o)))), avD (aT 2 (cellsOf (aT 0 (Out.res o)))), avD (aT 3 (cellsOf (aT 0 (Out.res o)))), avD (aT 4 (cellsOf (aT 0 (Out.res o)))), avD (aT 5 (cellsOf (aT 0 (Out.res o)))), avD (aT 6 (cellsOf (aT 0 (Out.res o)))), avD (aT 7 (cellsOf (aT 0 (Out.res o)))), D.sl aC.ks (qA 0 (Out.rws o))]) h)) (aI.inj (congrArg (fun o => List.map avD (aaP 0 (Out.bxs o))) h))
theorem uN : ∀ y z, dX y = dX z → y = z := fun y z h => match y, z, h with
 | .inl a, .inl b, h => congrArg Sum.inl (aN.inj (congrArg (fun o => List.map avD (cellsOf (agI (Out.aej o)))) h))
 | .inr a, .inr b, h => congrArg Sum.inr (abj a b h)
 | .inl _, .inr _, h => Bool.noConfusion (congrArg Out.oL h : true = false)
 | .inr _, .inl _, h => Bool.noConfusion (congrArg Out.oL h : false = true)
def oF : (aA × aI) → Out := fun r => .ret [.agg [.d (.int .i64 r.1.Kind), .d (.int .i64 r.1.ID), .d (.bool r.1.Dup), .d (.str r.1.Message.Topic), .d (.str r.1.Message.Payload), .d (.int .i64 r.1.Message.Level), .d (.bool r.1.Message.Retain), .d (.int .i64 r.1.Message.Priority), .d (.int .i64 r.1.Message.Expires), .d (.str r.1.Message.From), .d (.int .i64 r.1.Message.Seq), .row 0, .d (.str r.1.Client), .d (.str r.1.User), .d (.bool r.1.Clean), .d (.int .i64 r.1.Keep), .d (.int .i64 r.1.Expiry), .d (.int .i64 r.1.Window), .d (.bool r.1.Will.Set), .d (.int .i64 r.1.Will.Delay), .d (.str r.1.Will.Message.Topic), .d (.str r.1.Will.Message.Payload), .d (.int .i64 r.1.Will.Message.Level), .d (.bool r.1.Will.Message.Retain), .d (.int .i64 r.1.Will.Message.Priority), .d (.int .i64 r.1.Will.Message.Expires), .d (.str r.1.Will.Message.From), .d (.int .i64 r.1.Will.Message.Seq), .row 1, .d (.bool r.1.Present), .d (.int .i64 r.1.Code), .row 2, .row 3, .row 4]] [⟨66, (aI.avs r.2)⟩] [⟨aC.ks, 89, 32, (List.map aC.enc r.1.Message.Props)⟩, ⟨aC.ks, 89, 32, (List.map aC.enc r.1.Will.Message.Props)⟩, ⟨aH.ks, 53, 32, (List.map aH.enc r.1.Subs)⟩, ⟨[.str], 9, 16, (List.map aY r.1.Filters)⟩, ⟨[.int .i64], 3, 8, (List.map (aO .i64) r.1.Codes)⟩]
def gU : (aN ⊕ (aA × aI)) → Out := fun s => match s with | .inl q => .pan (.ifc 63 (aN.av q)) | .inr r => oF r
theorem abr : ∀ y z, oF y = oF z → y = z := fun y z h => Prod.ext (aA.inj (congrArg (fun o => [avD (aT 0 (cellsOf (aT 0 (Out.res o)))), avD (aT 1 (cellsOf (aT 0 (Out.res o)))), avD (aT 2 (cellsOf (aT 0 (Out.res o)))), avD (aT 3 (cellsOf (aT 0 (Out.res o)))), avD (aT 4 (cellsOf (aT 0 (Out.res o)))), avD (aT 5 (cellsOf (aT 0 (Out.res o)))), avD (aT 6 (cellsOf (aT 0 (Out.res o)))), avD (aT 7 (cellsOf (aT 0 (Out.res o)))), avD (aT 8 (cellsOf (aT 0 (Out.res o)))), avD (aT 9 (cellsOf (aT 0 (Out.res o)))), avD (aT 10 (cellsOf (aT 0 (Out.res o)))), D.sl aC.ks (qA 0 (Out.rws o)), avD (aT 12 (cellsOf (aT 0 (Out.res o)))), avD (aT 13 (cellsOf (aT 0 (Out.res o)))), avD (aT 14 (cellsOf (aT 0 (Out.res o)))), avD (aT 15 (cellsOf (aT 0 (Out.res o)))), avD (aT 16 (cellsOf (aT 0 (Out.res o)))), avD (aT 17 (cellsOf (aT 0 (Out.res o)))), avD (aT 18 (cellsOf (aT 0 (Out.res o)))), avD (aT 19 (cellsOf (aT 0 (Out.res o)))), avD (aT 20 (cellsOf (aT 0 (Out.res o)))), avD (aT 21 (cellsOf (aT 0 (Out.res o)))), avD (aT 22 (cellsOf (aT 0 (Out.res o)))), avD (aT 23 (cellsOf (aT 0 (Out.res o)))), avD (aT 24 (cellsOf (aT 0 (Out.res o)))), avD (aT 25 (cellsOf (aT 0 (Out.res o)))), avD (aT 26 (cellsOf (aT 0 (Out.res o)))), avD (aT 27 (cellsOf (aT 0 (Out.res o)))), D.sl aC.ks (qA 1 (Out.rws o)), avD (aT 29 (cellsOf (aT 0 (Out.res o)))), avD (aT 30 (cellsOf (aT 0 (Out.res o)))), D.sl aH.ks (qA 2 (Out.rws o)), D.sl [.str] (qA 3 (Out.rws o)), D.sl [.int .i64] (qA 4 (Out.rws o))]) h)) (aI.inj (congrArg (fun o => List.map avD (aaP 0 (Out.bxs o))) h))
theorem abS : ∀ y z, gU y = gU z → y = z := fun y z h => match y, z, h with
 | .inl a, .inl b, h => congrArg Sum.inl (aN.inj (congrArg (fun o => List.map avD (cellsOf (agI (Out.aej o)))) h))
 | .inr a, .inr b, h => congrArg Sum.inr (abr a b h)
 | .inl _, .inr _, h => Bool.noConfusion (congrArg Out.oL h : true = false)
 | .inr _, .inl _, h => Bool.noConfusion (congrArg Out.oL h : false = true)
def pU : (aA × aI) → Out := fun r => .ret [.agg [.d (.int .i64 r.1.Kind), .d (.int .i64 r.1.ID), .d (.bool r.1.Dup), .d (.str r.1.Message.Topic), .d (.str r.1.Message.Payload), .d (.int .i64 r.1.Message.Level), .d (.bool r.1.Message.Retain), .d (.int .i64 r.1.Message.Priority), .d (.int .i64 r.1.Message.Expires), .d (.str r.1.Message.From), .d (.int .i64 r.1.Message.Seq), .d (.sl aC.ks (List.map aC.enc r.1.Message.Props)), .d (.str r.1.Client), .d (.str r.1.User), .d (.bool r.1.Clean), .d (.int .i64 r.1.Keep), .d (.int .i64 r.1.Expiry), .d (.int .i64 r.1.Window), .d (.bool r.1.Will.Set), .d (.int .i64 r.1.Will.Delay), .d (.str r.1.Will.Message.Topic), .d (.str r.1.Will.Message.Payload), .d (.int .i64 r.1.Will.Message.Level), .d (.bool r.1.Will.Message.Retain), .d (.int .i64 r.1.Will.Message.Priority), .d (.int .i64 r.1.Will.Message.Expires), .d (.str r.1.Will.Message.From), .d (.int .i64 r.1.Will.Message.Seq), .d (.sl aC.ks (List.map aC.enc r.1.Will.Message.Props)), .d (.bool r.1.Present), .d (.int .i64 r.1.Code), .row 0, .row 1, .row 2]] [⟨66, (aI.avs r.2)⟩] [⟨aH.ks, 53, 32, (List.map aH.enc r.1.Subs)⟩, ⟨[.str], 9, 16, (List.map aY r.1.Filters)⟩, ⟨[.int .i64], 3, 8, (List.map (aO .i64) r.1.Codes)⟩]
def fT : (aN ⊕ (aA × aI)) → Out := fun s => match s with | .inl q => .pan (.ifc 63 (aN.av q)) | .inr r => pU r
theorem acC : ∀ y z, pU y = pU z → y = z := fun y z h => Prod.ext (aA.inj (congrArg (fun o => [avD (aT 0 (cellsOf (aT 0 (Out.res o)))), avD (aT 1 (cellsOf (aT 0 (Out.res o)))), avD (aT 2 (cellsOf (aT 0 (Out.res o)))), avD (aT 3 (cellsOf (aT 0 (Out.res o)))), avD (aT 4 (cellsOf (aT 0 (Out.res o)))), avD (aT 5 (cellsOf (aT 0 (Out.res o)))), avD (aT 6 (cellsOf (aT 0 (Out.res o)))), avD (aT 7 (cellsOf (aT 0 (Out.res o)))), avD (aT 8 (cellsOf (aT 0 (Out.res o)))), avD (aT 9 (cellsOf (aT 0 (Out.res o)))), avD (aT 10 (cellsOf (aT 0 (Out.res o)))), avD (aT 11 (cellsOf (aT 0 (Out.res o)))), avD (aT 12 (cellsOf (aT 0 (Out.res o)))), avD (aT 13 (cellsOf (aT 0 (Out.res o)))), avD (aT 14 (cellsOf (aT 0 (Out.res o)))), avD (aT 15 (cellsOf (aT 0 (Out.res o)))), avD (aT 16 (cellsOf (aT 0 (Out.res o)))), avD (aT 17 (cellsOf (aT 0 (Out.res o)))), avD (aT 18 (cellsOf (aT 0 (Out.res o)))), avD (aT 19 (cellsOf (aT 0 (Out.res o)))), avD (aT 20 (cellsOf (aT 0 (Out.res o)))), avD (aT 21 (cellsOf (aT 0 (Out.res o)))), avD (aT 22 (cellsOf (aT 0 (Out.res o)))), avD (aT 23 (cellsOf (aT 0 (Out.res o)))), avD (aT 24 (cellsOf (aT 0 (Out.res o)))), avD (aT 25 (cellsOf (aT 0 (Out.res o)))), avD (aT 26 (cellsOf (aT 0 (Out.res o)))), avD (aT 27 (cellsOf (aT 0 (Out.res o)))), avD (aT 28 (cellsOf (aT 0 (Out.res o)))), avD (aT 29 (cellsOf (aT 0 (Out.res o)))), avD (aT 30 (cellsOf (aT 0 (Out.res o)))), D.sl aH.ks (qA 0 (Out.rws o)), D.sl [.str] (qA 1 (Out.rws o)), D.sl [.int .i64] (qA 2 (Out.rws o))]) h)) (aI.inj (congrArg (fun o => List.map avD (aaP 0 (Out.bxs o))) h))
theorem mM : ∀ y z, fT y = fT z → y = z := fun y z h => match y, z, h with
 | .inl a, .inl b, h => congrArg Sum.inl (aN.inj (congrArg (fun o => List.map avD (cellsOf (agI (Out.aej o)))) h))
 | .inr a, .inr b, h => congrArg Sum.inr (acC a b h)
 | .inl _, .inr _, h => Bool.noConfusion (congrArg Out.oL h : true = false)
 | .inr _, .inl _, h => Bool.noConfusion (congrArg Out.oL h : false = true)
def oT : (aA × aI) → Out := fun r => .ret [.agg [.d (.int .i64 r.1.Kind), .d (.int .i64 r.1.ID), .d (.bool r.1.Dup), .d (.str r.1.Message.Topic), .d (.str r.1.Message.Payload), .d (.int .i64 r.1.Message.Level), .d (.bool r.1.Message.Retain), .d (.int .i64 r.1.Message.Priority), .d (.int .i64 r.1.Message.Expires), .d (.str r.1.Message.From), .d (.int .i64 r.1.Message.Seq), .d (.sl aC.ks (List.map aC.enc r.1.Message.Props)), .d (.str r.1.Client), .d (.str r.1.User), .d (.bool r.1.Clean), .d (.int .i64 r.1.Keep), .d (.int .i64 r.1.Expiry), .d (.int .i64 r.1.Window), .d (.bool r.1.Will.Set), .d (.int .i64 r.1.Will.Delay), .d (.str r.1.Will.Message.Topic), .d (.str r.1.Will.Message.Payload), .d (.int .i64 r.1.Will.Message.Level), .d (.bool r.1.Will.Message.Retain), .d (.int .i64 r.1.Will.Message.Priority), .d (.int .i64 r.1.Will.Message.Expires), .d (.str r.1.Will.Message.From), .d (.int .i64 r.1.Will.Message.Seq), .d (.sl aC.ks (List.map aC.enc r.1.Will.Message.Props)), .d (.bool r.1.Present), .d (.int .i64 r.1.Code), .row 0, .row 1, .row 2]] [⟨66, (aI.avs r.2)⟩] [⟨aH.ks, 53, 32, (List.map aH.enc r.1.Subs)⟩, ⟨[.str], 9, 16, (List.map aY r.1.Filters)⟩, ⟨[.int .i64], 3, 8, (List.map (aO .i64) r.1.Codes)⟩]
def hQ : (aN ⊕ (aA × aI)) → Out := fun s => match s with | .inl q => .pan (.ifc 63 (aN.av q)) | .inr r => oT r
theorem ab7 : ∀ y z, oT y = oT z → y = z := fun y z h => Prod.ext (aA.inj (congrArg (fun o => [avD (aT 0 (cellsOf (aT 0 (Out.res o)))), avD (aT 1 (cellsOf (aT 0 (Out.res o)))), avD (aT 2 (cellsOf (aT 0 (Out.res o)))), avD (aT 3 (cellsOf (aT 0 (Out.res o)))), avD (aT 4 (cellsOf (aT 0 (Out.res o)))), avD (aT 5 (cellsOf (aT 0 (Out.res o)))), avD (aT 6 (cellsOf (aT 0 (Out.res o)))), avD (aT 7 (cellsOf (aT 0 (Out.res o)))), avD (aT 8 (cellsOf (aT 0 (Out.res o)))), avD (aT 9 (cellsOf (aT 0 (Out.res o)))), avD (aT 10 (cellsOf (aT 0 (Out.res o)))), avD (aT 11 (cellsOf (aT 0 (Out.res o)))), avD (aT 12 (cellsOf (aT 0 (Out.res o)))), avD (aT 13 (cellsOf (aT 0 (Out.res o)))), avD (aT 14 (cellsOf (aT 0 (Out.res o)))), avD (aT 15 (cellsOf (aT 0 (Out.res o)))), avD (aT 16 (cellsOf (aT 0 (Out.res o)))), avD (aT 17 (cellsOf (aT 0 (Out.res o)))), avD (aT 18 (cellsOf (aT 0 (Out.res o)))), avD (aT 19 (cellsOf (aT 0 (Out.res o)))), avD (aT 20 (cellsOf (aT 0 (Out.res o)))), avD (aT 21 (cellsOf (aT 0 (Out.res o)))), avD (aT 22 (cellsOf (aT 0 (Out.res o)))), avD (aT 23 (cellsOf (aT 0 (Out.res o)))), avD (aT 24 (cellsOf (aT 0 (Out.res o)))), avD (aT 25 (cellsOf (aT 0 (Out.res o)))), avD (aT 26 (cellsOf (aT 0 (Out.res o)))), avD (aT 27 (cellsOf (aT 0 (Out.res o)))), avD (aT 28 (cellsOf (aT 0 (Out.res o)))), avD (aT 29 (cellsOf (aT 0 (Out.res o)))), avD (aT 30 (cellsOf (aT 0 (Out.res o)))), D.sl aH.ks (qA 0 (Out.rws o)), D.sl [.str] (qA 1 (Out.rws o)), D.sl [.int .i64] (qA 2 (Out.rws o))]) h)) (aI.inj (congrArg (fun o => List.map avD (aaP 0 (Out.bxs o))) h))
theorem vP : ∀ y z, hQ y = hQ z → y = z := fun y z h => match y, z, h with
 | .inl a, .inl b, h => congrArg Sum.inl (aN.inj (congrArg (fun o => List.map avD (cellsOf (agI (Out.aej o)))) h))
 | .inr a, .inr b, h => congrArg Sum.inr (ab7 a b h)
 | .inl _, .inr _, h => Bool.noConfusion (congrArg Out.oL h : true = false)
 | .inr _, .inl _, h => Bool.noConfusion (congrArg Out.oL h : false = true)
def fB : (aA × Int) → Out := fun r => .ret [.agg [.d (.int .i64 r.1.Kind), .d (.int .i64 r.1.ID), .d (.bool r.1.Dup), .d (.str r.1.Message.Topic), .d (.str r.1.Message.Payload), .d (.int .i64 r.1.Message.Level), .d (.bool r.1.Message.Retain), .d (.int .i64 r.1.Message.Priority), .d (.int .i64 r.1.Message.Expires), .d (.str r.1.Message.From), .d (.int .i64 r.1.Message.Seq), .d (.sl aC.ks (List.map aC.enc r.1.Message.Props)), .d (.str r.1.Client), .d (.str r.1.User), .d (.bool r.1.Clean), .d (.int .i64 r.1.Keep), .d (.int .i64 r.1.Expiry), .d (.int .i64 r.1.Window), .d (.bool r.1.Will.Set), .d (.int .i64 r.1.Will.Delay), .d (.str r.1.Will.Message.Topic), .d (.str r.1.Will.Message.Payload), .d (.int .i64 r.1.Will.Message.Level), .d (.bool r.1.Will.Message.Retain), .d (.int .i64 r.1.Will.Message.Priority), .d (.int .i64 r.1.Will.Message.Expires), .d (.str r.1.Will.Message.From), .d (.int .i64 r.1.Will.Message.Seq), .d (.sl aC.ks (List.map aC.enc r.1.Will.Message.Props)), .d (.bool r.1.Present), .d (.int .i64 r.1.Code), .row 0, .row 1, .row 2], .d (.int .i64 r.2)] [] [⟨aH.ks, 53, 32, (List.map aH.enc r.1.Subs)⟩, ⟨[.str], 9, 16, (List.map aY r.1.Filters)⟩, ⟨[.int .i64], 3, 8, (List.map (aO .i64) r.1.Codes)⟩]
theorem sU : ∀ y z, fB y = fB z → y = z := fun y z h => Prod.ext (aA.inj (congrArg (fun o => [avD (aT 0 (cellsOf (aT 0 (Out.res o)))), avD (aT 1 (cellsOf (aT 0 (Out.res o)))), avD (aT 2 (cellsOf (aT 0 (Out.res o)))), avD (aT 3 (cellsOf (aT 0 (Out.res o)))), avD (aT 4 (cellsOf (aT 0 (Out.res o)))), avD (aT 5 (cellsOf (aT 0 (Out.res o)))), avD (aT 6 (cellsOf (aT 0 (Out.res o)))), avD (aT 7 (cellsOf (aT 0 (Out.res o)))), avD (aT 8 (cellsOf (aT 0 (Out.res o)))), avD (aT 9 (cellsOf (aT 0 (Out.res o)))), avD (aT 10 (cellsOf (aT 0 (Out.res o)))), avD (aT 11 (cellsOf (aT 0 (Out.res o)))), avD (aT 12 (cellsOf (aT 0 (Out.res o)))), avD (aT 13 (cellsOf (aT 0 (Out.res o)))), avD (aT 14 (cellsOf (aT 0 (Out.res o)))), avD (aT 15 (cellsOf (aT 0 (Out.res o)))), avD (aT 16 (cellsOf (aT 0 (Out.res o)))), avD (aT 17 (cellsOf (aT 0 (Out.res o)))), avD (aT 18 (cellsOf (aT 0 (Out.res o)))), avD (aT 19 (cellsOf (aT 0 (Out.res o)))), avD (aT 20 (cellsOf (aT 0 (Out.res o)))), avD (aT 21 (cellsOf (aT 0 (Out.res o)))), avD (aT 22 (cellsOf (aT 0 (Out.res o)))), avD (aT 23 (cellsOf (aT 0 (Out.res o)))), avD (aT 24 (cellsOf (aT 0 (Out.res o)))), avD (aT 25 (cellsOf (aT 0 (Out.res o)))), avD (aT 26 (cellsOf (aT 0 (Out.res o)))), avD (aT 27 (cellsOf (aT 0 (Out.res o)))), avD (aT 28 (cellsOf (aT 0 (Out.res o)))), avD (aT 29 (cellsOf (aT 0 (Out.res o)))), avD (aT 30 (cellsOf (aT 0 (Out.res o)))), D.sl aH.ks (qA 0 (Out.rws o)), D.sl [.str] (qA 1 (Out.rws o)), D.sl [.int .i64] (qA 2 (Out.rws o))]) h)) (congrArg (fun o => aX (avD (aT 1 (Out.res o)))) h)
def dM : ((List aA) × Int) → Out := fun r => .ret [.row 0, .d (.int .i64 r.2)] [] [⟨aA.ks, 31, 416, (List.map aA.enc r.1)⟩]
theorem sJ : ∀ y z, dM y = dM z → y = z := fun y z h => Prod.ext (map_inj aA.inj (congrArg (fun o => qA 0 (Out.rws o)) h)) (congrArg (fun o => aX (avD (aT 1 (Out.res o)))) h)
def good : FuncId → Out → Prop := fun f o => match f with | 51 => ∃ x, brokerref06_Used_out x = o | 83 => ∃ x, brokerref05_SameProps_out x = o | 43 => ∃ x, brokerref05_SameProps_out x = o | 44 => ∃ x, brokerref05_SameProps_out x = o | 45 => ∃ x, brokerref05_SameProps_out x = o | 46 => ∃ x, brokerref05_SameProps_out x = o | 47 => ∃ x, brokerref05_SameProps_out x = o | 16 => ∃ x, brokerref05_SameProps_out x = o | 108 => ∃ x, brokerref05_SameProps_out x = o | 109 => ∃ x, brokerref05_SameProps_out x = o | 86 => ∃ x, brokerref05_SameProps_out x = o | 123 => ∃ x, brokerref05_SameProps_out x = o | 125 => ∃ x, eQ x = o | 122 => ∃ x, brokerref05_SameProps_out x = o | 110 => ∃ x, brokerref05_SameProps_out x = o | 124 => ∃ x, brokerref05_SameProps_out x = o | 111 => ∃ x, brokerref05_Props_out x = o | 88 => ∃ x, brokerref05_Props_out x = o | 87 => ∃ x, brokerref05_Props_out x = o | 52 => ∃ x, brokerref05_Props_out x = o | 55 => ∃ x, brokerref05_Props_out x = o | 53 => ∃ x, brokerref05_Props_out x = o | 54 => ∃ x, brokerref05_SameProps_out x = o | 56 => ∃ x, brokerref05_Props_out x = o | 114 => ∃ x, brokerref05_SameProps_out x = o | 113 => ∃ x, brokerref05_SameProps_out x = o | 112 => ∃ x, brokerref01_Shared_out x = o | 90 => ∃ x, brokerref05_SameProps_out x = o | 89 => ∃ x, brokerref05_Props_out x = o | 57 => ∃ x, brokerref05_Props_out x = o | 23 => ∃ x, brokerref05_Props_out x = o | 22 => ∃ x, brokerref05_SameProps_out x = o | 58 => ∃ x, brokerref05_SameProps_out x = o | 60 => ∃ x, brokerref06_Used_out x = o | 91 => ∃ x, lZ x = o | 92 => ∃ x, brokerref05_SameProps_out x = o | 93 => ∃ x, brokerref05_SameProps_out x = o | 94 => ∃ x, brokerref05_SameProps_out x = o | 95 => ∃ x, brokerref05_SameProps_out x = o | 59 => ∃ x, brokerref05_SameProps_out x = o | 96 => ∃ x, brokerref05_SameProps_out x = o | 126 => ∃ x, brokerref05_SameProps_out x = o | 115 => ∃ x, brokerref05_SameProps_out x = o | 116 => ∃ x, brokerref05_SameProps_out x = o | 127 => ∃ x, brokerref05_SameProps_out x = o | 117 => ∃ x, brokerref05_Props_out x = o | 97 => ∃ x, brokerref05_Props_out x = o | 61 => ∃ x, brokerref05_Props_out x = o | 62 => ∃ x, brokerref05_SameProps_out x = o | 64 => ∃ x, brokerref05_Props_out x = o | 63 => ∃ x, brokerref05_Props_out x = o | 98 => ∃ x, brokerref05_Props_out x = o | 131 => ∃ x, brokerref05_SameProps_out x = o | 132 => ∃ x, dU x = o | 128 => ∃ x, dU x = o | 137 => ∃ x, brokerref05_Props_out x = o | 135 => ∃ x, brokerref05_Props_out x = o | 133 => ∃ x, brokerref01_Shared_out x = o | 129 => ∃ x, brokerref01_Shared_out x = o | 143 => ∃ x, brokerref05_Props_out x = o | 142 => ∃ x, brokerref05_Props_out x = o | 136 => ∃ x, cQ x = o | 134 => ∃ x, cQ x = o | 130 => ∃ x, cQ x = o | 119 => ∃ x, brokerref05_SameProps_out x = o | 120 => ∃ x, brokerref05_SameProps_out x = o | 118 => ∃ x, brokerref01_Shared_out x = o | 99 => ∃ x, jR x = o | 65 => ∃ x, brokerref05_Props_out x = o | 66 => ∃ x, brokerref05_Props_out x = o | 67 => ∃ x, brokerref05_Props_out x = o | 25 => ∃ x, brokerref05_Props_out x = o | 69 => ∃ x, aP x = o | 100 => ∃ x, kM x = o | 68 => ∃ x, aP x = o | 26 => ∃ x, aP x = o | 70 => ∃ x, aP x = o | 28 => ∃ x, brokerref05_Props_out x = o | 29 => ∃ x, aP x = o | 27 => ∃ x, aP x = o | 30 => ∃ x, aP x = o | 31 => ∃ x, aP x = o | 11 => ∃ x, bV x = o | 84 => ∃ x, brokerref05_Props_out x = o | 49 => ∃ x, cS x = o | 39 => ∃ x, gB x = o | 38 => ∃ x, cH x = o | 121 => ∃ x, gA x = o | 101 => ∃ x, eC x = o | 75 => ∃ x, dA x = o | 102 => ∃ x, brokerref05_SameProps_out x = o | 103 => ∃ x, fC x = o | 76 => ∃ x, dX x = o | 74 => ∃ x, gU x = o | 77 => ∃ x, fT x = o | 40 => ∃ x, hQ x = o | 14 => ∃ x, fB x = o | 17 => ∃ x, bV x = o | 19 => ∃ x, dM x = o | 10 => ∃ x, brokerref05_SameProps_out x = o | 21 => ∃ x, brokerref05_SameProps_out x = o | 7 => ∃ x, brokerref05_SameProps_out x = o | _ => False
abbrev cT {R : Type} (g : FuncId) (out : R → Out) : Gm R := ajc SE good g out
noncomputable abbrev gG : Fun := pB SE good
noncomputable abbrev cP {Q R : Type} (g : FuncId) (out : Q ⊕ R → Out) : Gp Q R := alu SE good g out
end Te
end PX
