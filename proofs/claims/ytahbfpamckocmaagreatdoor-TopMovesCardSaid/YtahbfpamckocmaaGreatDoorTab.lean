import Derived.Test.YtahbfpamckocmaaGreatDoorMod
import Derived.Test.YtahbfpamckocmaaGreatDoorProg
set_option linter.unusedVariables false
set_option linter.unusedSimpArgs false
noncomputable section
namespace PX
open Go
open Md
namespace Te
def tyL : List (Nat × TI) := [(3, ⟨[.int .i64], false, 8, [], 0⟩),
 (4, ⟨[.bool], false, 1, [], 0⟩),
 (5, ⟨[.int .u8], false, 1, [], 0⟩),
 (9, ⟨[.str], false, 16, [], 0⟩),
 (21, ⟨[.int .i32], false, 4, [], 0⟩),
 (22, ⟨[.sl [.str]], false, 24, [], 9⟩),
 (23, ⟨[.sl [.int .u8]], false, 24, [], 5⟩),
 (24, ⟨[.sl [.str, .str]], false, 24, [], 104⟩),
 (26, ⟨[.str, .str, .int .i64, .bool, .int .i64, .int .i64, .str, .int .i64, .sl [.str, .str]], true, 112, [(0, 9), (1, 9), (2, 3), (3, 4), (4, 3), (5, 3), (6, 9), (7, 3), (8, 24)], 0⟩),
 (28, ⟨[.bool, .int .i64, .str, .str, .int .i64, .bool, .int .i64, .int .i64, .str, .int .i64, .sl [.str, .str]], true, 128, [(0, 4), (1, 3), (2, 26)], 0⟩),
 (29, ⟨[.sl [.str, .int .i64, .bool]], false, 24, [], 73⟩),
 (30, ⟨[.sl [.int .i64]], false, 24, [], 3⟩),
 (32, ⟨[.int .i64, .int .i64, .bool, .str, .str, .int .i64, .bool, .int .i64, .int .i64, .str, .int .i64, .sl [.str, .str], .str, .str, .bool, .int .i64, .int .i64, .int .i64, .bool, .int .i64, .str, .str, .int .i64, .bool, .int .i64, .int .i64, .str, .int .i64, .sl [.str, .str], .bool, .int .i64, .sl [.str, .int .i64, .bool], .sl [.str], .sl [.int .i64]], true, 416, [(0, 3), (1, 3), (2, 4), (3, 26), (12, 9), (13, 9), (14, 4), (15, 3), (16, 3), (17, 3), (18, 28), (29, 4), (30, 3), (31, 29), (32, 22), (33, 30)], 0⟩),
 (33, ⟨[.sl [.str, .str, .int .i64, .bool, .int .i64, .int .i64, .str, .int .i64, .sl [.str, .str]]], false, 24, [], 26⟩),
 (34, ⟨[.sl [.int .i64, .int .i64, .str, .str, .int .i64, .bool, .int .i64, .int .i64, .str, .int .i64, .sl [.str, .str]]], false, 24, [], 79⟩),
 (36, ⟨[.sl [.int .i64], .int .i64], true, 32, [(0, 30), (1, 3)], 0⟩),
 (38, ⟨[.int .i64, .sl [.int .i64, .int .i64, .str, .str, .int .i64, .bool, .int .i64, .int .i64, .str, .int .i64, .sl [.str, .str]], .sl [.int .i64], .int .i64], true, 64, [(0, 3), (1, 34), (2, 36)], 0⟩),
 (40, ⟨[.sl [.int .i64]], true, 24, [(0, 30)], 0⟩),
 (42, ⟨[.str, .str, .bool, .int .i64, .int .i64, .int .i64, .int .i64, .sl [.str, .int .i64, .bool], .sl [.str, .str, .int .i64, .bool, .int .i64, .int .i64, .str, .int .i64, .sl [.str, .str]], .int .i64, .sl [.int .i64, .int .i64, .str, .str, .int .i64, .bool, .int .i64, .int .i64, .str, .int .i64, .sl [.str, .str]], .sl [.int .i64], .int .i64, .sl [.int .i64], .bool, .int .i64, .str, .str, .int .i64, .bool, .int .i64, .int .i64, .str, .int .i64, .sl [.str, .str]], true, 336, [(0, 9), (1, 9), (2, 4), (3, 3), (4, 3), (5, 3), (6, 3), (7, 29), (8, 33), (9, 38), (13, 40), (14, 28)], 0⟩),
 (46, ⟨[.sl [.int .i64, .int .i64, .bool, .str, .str, .int .i64, .bool, .int .i64, .int .i64, .str, .int .i64, .sl [.str, .str], .str, .str, .bool, .int .i64, .int .i64, .int .i64, .bool, .int .i64, .str, .str, .int .i64, .bool, .int .i64, .int .i64, .str, .int .i64, .sl [.str, .str], .bool, .int .i64, .sl [.str, .int .i64, .bool], .sl [.str], .sl [.int .i64]]], false, 24, [], 32⟩),
 (50, ⟨[.int .i64], false, 8, [], 0⟩),
 (68, ⟨[.fn], false, 8, [], 0⟩),
 (70, ⟨[.fn], false, 8, [], 0⟩),
 (73, ⟨[.str, .int .i64, .bool], true, 32, [(0, 9), (1, 3), (2, 4)], 0⟩),
 (74, ⟨[.fn], false, 8, [], 0⟩),
 (76, ⟨[.fn], false, 8, [], 0⟩),
 (79, ⟨[.int .i64, .int .i64, .str, .str, .int .i64, .bool, .int .i64, .int .i64, .str, .int .i64, .sl [.str, .str]], true, 128, [(0, 3), (1, 3), (2, 26)], 0⟩),
 (80, ⟨[.fn], false, 8, [], 0⟩),
 (83, ⟨[.ptr], false, 8, [], 0⟩),
 (85, ⟨[.sl [.int .u8], .int .i64, .int .i64], true, 40, [(0, 23), (1, 3), (2, 50)], 0⟩),
 (87, ⟨[.fn], false, 8, [], 0⟩),
 (89, ⟨[.fn], false, 8, [], 0⟩),
 (91, ⟨[.fn], false, 8, [], 0⟩),
 (93, ⟨[.fn], false, 8, [], 0⟩),
 (104, ⟨[.str, .str], true, 32, [(0, 9), (1, 9)], 0⟩),
 (113, ⟨[.sl [.bool]], false, 24, [], 4⟩),
 (135, ⟨[.int .u64], false, 8, [], 0⟩),
 (137, ⟨[.int .u64], false, 8, [], 0⟩),
 (139, ⟨[.ptr], false, 8, [], 0⟩),
 (141, ⟨[.sl [.int .u8], .int .i64, .int .i64], true, 40, [(0, 23), (1, 3), (2, 50)], 0⟩),
 (150, ⟨[.fn], false, 8, [], 0⟩)]
def fnL : List (Nat × Func) := [(49, Go.Proofs.Tryz.f49), (14, Go.Proofs.Tryz.f14), (15, Go.Proofs.Tryz.f15), (4, Go.Proofs.Tryz.f4), (50, Go.Proofs.Tryz.f50), (51, Go.Proofs.Tryz.f51), (16, Go.Proofs.Tryz.f16), (54, Go.Proofs.Tryz.f54), (17, Go.Proofs.Tryz.f17), (75, Go.Proofs.Tryz.f75), (100, Go.Proofs.Tryz.f100), (88, Go.Proofs.Tryz.f88), (83, Go.Proofs.Tryz.f83), (65, Go.Proofs.Tryz.f65), (103, Go.Proofs.Tryz.f103), (89, Go.Proofs.Tryz.f89), (68, Go.Proofs.Tryz.f68), (95, Go.Proofs.Tryz.f95), (112, Go.Proofs.Tryz.f112), (105, Go.Proofs.Tryz.f105), (106, Go.Proofs.Tryz.f106), (96, Go.Proofs.Tryz.f96), (97, Go.Proofs.Tryz.f97), (76, Go.Proofs.Tryz.f76), (77, Go.Proofs.Tryz.f77), (73, Go.Proofs.Tryz.f73), (64, Go.Proofs.Tryz.f64), (55, Go.Proofs.Tryz.f55), (19, Go.Proofs.Tryz.f19), (6, Go.Proofs.Tryz.f6), (21, Go.Proofs.Tryz.f21), (56, Go.Proofs.Tryz.f56), (20, Go.Proofs.Tryz.f20), (7, Go.Proofs.Tryz.f7), (66, Go.Proofs.Tryz.f66), (43, Go.Proofs.Tryz.f43), (102, Go.Proofs.Tryz.f102), (109, Go.Proofs.Tryz.f109), (98, Go.Proofs.Tryz.f98), (117, Go.Proofs.Tryz.f117), (114, Go.Proofs.Tryz.f114), (110, Go.Proofs.Tryz.f110), (99, Go.Proofs.Tryz.f99), (123, Go.Proofs.Tryz.f123), (122, Go.Proofs.Tryz.f122), (115, Go.Proofs.Tryz.f115), (111, Go.Proofs.Tryz.f111), (101, Go.Proofs.Tryz.f101), (86, Go.Proofs.Tryz.f86), (87, Go.Proofs.Tryz.f87), (84, Go.Proofs.Tryz.f84), (85, Go.Proofs.Tryz.f85), (67, Go.Proofs.Tryz.f67), (44, Go.Proofs.Tryz.f44), (69, Go.Proofs.Tryz.f69), (90, Go.Proofs.Tryz.f90), (92, Go.Proofs.Tryz.f92), (91, Go.Proofs.Tryz.f91), (72, Go.Proofs.Tryz.f72), (70, Go.Proofs.Tryz.f70), (45, Go.Proofs.Tryz.f45), (46, Go.Proofs.Tryz.f46), (71, Go.Proofs.Tryz.f71), (47, Go.Proofs.Tryz.f47), (12, Go.Proofs.Tryz.f12), (58, Go.Proofs.Tryz.f58), (78, Go.Proofs.Tryz.f78), (57, Go.Proofs.Tryz.f57), (22, Go.Proofs.Tryz.f22), (23, Go.Proofs.Tryz.f23), (31, Go.Proofs.Tryz.f31), (25, Go.Proofs.Tryz.f25), (24, Go.Proofs.Tryz.f24), (59, Go.Proofs.Tryz.f59), (27, Go.Proofs.Tryz.f27), (26, Go.Proofs.Tryz.f26), (29, Go.Proofs.Tryz.f29), (28, Go.Proofs.Tryz.f28), (30, Go.Proofs.Tryz.f30), (8, Go.Proofs.Tryz.f8), (53, Go.Proofs.Tryz.f53), (52, Go.Proofs.Tryz.f52), (18, Go.Proofs.Tryz.f18), (5, Go.Proofs.Tryz.f5), (79, Go.Proofs.Tryz.f79), (61, Go.Proofs.Tryz.f61), (60, Go.Proofs.Tryz.f60), (32, Go.Proofs.Tryz.f32), (33, Go.Proofs.Tryz.f33), (41, Go.Proofs.Tryz.f41), (35, Go.Proofs.Tryz.f35), (34, Go.Proofs.Tryz.f34), (80, Go.Proofs.Tryz.f80), (81, Go.Proofs.Tryz.f81), (82, Go.Proofs.Tryz.f82), (62, Go.Proofs.Tryz.f62), (37, Go.Proofs.Tryz.f37), (36, Go.Proofs.Tryz.f36), (39, Go.Proofs.Tryz.f39), (38, Go.Proofs.Tryz.f38), (40, Go.Proofs.Tryz.f40), (9, Go.Proofs.Tryz.f9), (63, Go.Proofs.Tryz.f63), (42, Go.Proofs.Tryz.f42), (10, Go.Proofs.Tryz.f10), (11, Go.Proofs.Tryz.f11), (104, Go.Proofs.Tryz.f104), (93, Go.Proofs.Tryz.f93), (94, Go.Proofs.Tryz.f94), (74, Go.Proofs.Tryz.f74), (48, Go.Proofs.Tryz.f48), (13, Go.Proofs.Tryz.f13), (3, Go.Proofs.Tryz.f3)]
def tmL : List (Nat × (List Sh × List (TypeId × List Sh))) := [(49, ([.row 0 aD.ks 104 32], [])),
 (14, ([.agg [.str, .str, .int .i64, .bool, .int .i64, .int .i64, .str, .int .i64, .row 0 aD.ks 104 32]], [])),
 (15, ([.agg [.int .i64, .row 0 aB.ks 79 128, .row 1 [.int .i64] 3 8, .int .i64]], [])),
 (4, ([.agg [.str, .str, .bool, .int .i64, .int .i64, .int .i64, .int .i64, .row 0 aG.ks 73 32, .row 1 aA.ks 26 112, .int .i64, .row 2 aB.ks 79 128, .row 3 [.int .i64] 3 8, .int .i64, .row 4 [.int .i64] 3 8, .bool, .int .i64, .str, .str, .int .i64, .bool, .int .i64, .int .i64, .str, .int .i64, .row 5 aD.ks 104 32]], [])),
 (50, ([.row 0 aG.ks 73 32], [])),
 (51, ([.row 0 [.int .i64] 3 8], [])),
 (16, ([.agg [.str, .str, .bool, .int .i64, .int .i64, .int .i64, .int .i64, .row 0 aG.ks 73 32, .row 1 aA.ks 26 112, .int .i64, .row 2 aB.ks 79 128, .row 3 [.int .i64] 3 8, .int .i64, .row 4 [.int .i64] 3 8, .bool, .int .i64, .str, .str, .int .i64, .bool, .int .i64, .int .i64, .str, .int .i64, .row 5 aD.ks 104 32]], [])),
 (54, ([.bool], [])),
 (17, ([aC.sh], [])),
 (75, ([.int .i64], [])),
 (100, ([.bool], [])),
 (88, ([.bool], [])),
 (83, ([.bool], [])),
 (65, ([.bool], [])),
 (103, ([.bool], [])),
 (89, ([.int .i64], [])),
 (68, ([.int .i64], [])),
 (95, ([.int .i64], [])),
 (112, ([.bool], [])),
 (105, ([.bool], [])),
 (106, ([.bool], [])),
 (96, ([.int .i64, .bool], [])),
 (97, ([.row 0 [.int .i64] 3 8], [])),
 (76, ([.int .i64, .agg [.row 0 [.int .i64] 3 8, .int .i64], .int .i64], [])),
 (77, ([.agg [.str, .str, .int .i64, .bool, .int .i64, .int .i64, .str, .int .i64, .row 0 aD.ks 104 32]], [])),
 (73, ([.agg [.int .i64, .row 0 aB.ks 79 128, .row 1 [.int .i64] 3 8, .int .i64]], [])),
 (64, ([.agg [.int .i64, .int .i64, .bool, .str, .str, .int .i64, .bool, .int .i64, .int .i64, .str, .int .i64, .row 0 aD.ks 104 32, .str, .str, .bool, .int .i64, .int .i64, .int .i64, .bool, .int .i64, .str, .str, .int .i64, .bool, .int .i64, .int .i64, .str, .int .i64, .row 1 aD.ks 104 32, .bool, .int .i64, .row 2 aG.ks 73 32, .row 3 [.str] 9 16, .row 4 [.int .i64] 3 8]], [])),
 (55, ([.agg [.int .i64, .row 0 aB.ks 79 128, .row 1 [.int .i64] 3 8, .int .i64], .agg [.int .i64, .int .i64, .bool, .str, .str, .int .i64, .bool, .int .i64, .int .i64, .str, .int .i64, .row 2 aD.ks 104 32, .str, .str, .bool, .int .i64, .int .i64, .int .i64, .bool, .int .i64, .str, .str, .int .i64, .bool, .int .i64, .int .i64, .str, .int .i64, .row 3 aD.ks 104 32, .bool, .int .i64, .row 4 aG.ks 73 32, .row 5 [.str] 9 16, .row 6 [.int .i64] 3 8], .int .i64], [])),
 (19, ([aC.sh, .row 0 aF.ks 32 416], [])),
 (6, ([aC.sh, .row 0 aF.ks 32 416], [])),
 (21, ([.bool], [])),
 (56, ([.int .i64], [])),
 (20, ([.row 0 aA.ks 26 112], [])),
 (7, ([aC.sh], [])),
 (66, ([.bool], [])),
 (43, ([.int .i64], [])),
 (102, ([.bool], [])),
 (109, ([.str, .bool], [])),
 (98, ([.str, .bool], [])),
 (117, ([.int .i64], [])),
 (114, ([.int .i64], [])),
 (110, ([.str, .str, .bool], [])),
 (99, ([.str, .str, .bool], [])),
 (123, ([.int .i64], [])),
 (122, ([.int .i64], [])),
 (115, ([.sl [.str]], [])),
 (111, ([.sl [.str]], [])),
 (101, ([.sl [.str]], [])),
 (86, ([.bool], [])),
 (87, ([.bool], [])),
 (84, ([.str, .str, .bool], [])),
 (85, ([.bool], [(73, aG.shs)])),
 (67, ([.int .i64], [])),
 (44, ([.int .i64], [])),
 (69, ([.int .i64], [])),
 (90, ([.bool], [])),
 (92, ([.bool], [(3, [.int .i64])])),
 (91, ([.int .i64], [(3, [.int .i64])])),
 (72, ([.int .i64], [])),
 (70, ([.int .i64], [])),
 (45, ([.int .i64], [])),
 (46, ([.int .i64], [])),
 (71, ([.bool], [])),
 (47, ([.int .i64], [])),
 (12, ([.int .i64], [])),
 (58, ([.row 0 [.int .u8] 5 1], [])),
 (78, ([.int .u64], [])),
 (57, ([.row 0 [.int .u8] 5 1], [])),
 (22, ([.row 0 [.int .u8] 5 1], [])),
 (23, ([.row 0 [.int .u8] 5 1], [])),
 (31, ([.int .i64], [])),
 (25, ([.row 0 [.int .u8] 5 1], [])),
 (24, ([.row 0 [.int .u8] 5 1], [])),
 (59, ([.int .i64], [])),
 (27, ([.row 0 [.int .u8] 5 1], [])),
 (26, ([.row 0 [.int .u8] 5 1], [])),
 (29, ([.row 0 [.int .u8] 5 1], [])),
 (28, ([.row 0 [.int .u8] 5 1], [])),
 (30, ([.row 0 [.int .u8] 5 1], [])),
 (8, ([.row 0 [.int .u8] 5 1, .int .i64], [])),
 (53, ([.agg [.str, .str, .int .i64, .bool, .int .i64, .int .i64, .str, .int .i64, .row 0 aD.ks 104 32]], [])),
 (52, ([.row 0 aA.ks 26 112], [])),
 (18, ([.row 0 aA.ks 26 112, .row 1 aA.ks 26 112, .bool], [])),
 (5, ([aC.sh, .bool], [])),
 (79, ([.int .i64], [])),
 (61, ([.int .i64, .int .i64, .int .i64], [])),
 (60, ([.str, .int .i64, .int .i64], [])),
 (32, ([.str], [(85, aE.shs)])),
 (33, ([.int .i64], [(85, aE.shs)])),
 (41, ([.bool], [(85, aE.shs)])),
 (35, ([aG.sh], [(85, aE.shs)])),
 (34, ([.row 0 aG.ks 73 32], [(85, aE.shs)])),
 (80, ([.str], [(141, aL.shs)])),
 (81, ([.int .i64], [(141, aL.shs)])),
 (82, ([], [(141, aL.shs)])),
 (62, ([.agg [.str, .str, .int .i64, .bool, .int .i64, .int .i64, .str, .int .i64, .row 0 aD.ks 104 32], .int .i64, .int .i64], [])),
 (37, ([.agg [.str, .str, .int .i64, .bool, .int .i64, .int .i64, .str, .int .i64, .row 0 aD.ks 104 32]], [(85, aE.shs)])),
 (36, ([.row 0 aA.ks 26 112], [(85, aE.shs)])),
 (39, ([.agg [.int .i64, .int .i64, .str, .str, .int .i64, .bool, .int .i64, .int .i64, .str, .int .i64, .row 0 aD.ks 104 32]], [(85, aE.shs)])),
 (38, ([.row 0 aB.ks 79 128], [(85, aE.shs)])),
 (40, ([.row 0 [.int .i64] 3 8], [(85, aE.shs)])),
 (9, ([.agg [.str, .str, .bool, .int .i64, .int .i64, .int .i64, .int .i64, .row 0 aG.ks 73 32, .row 1 aA.ks 26 112, .int .i64, .row 2 aB.ks 79 128, .row 3 [.int .i64] 3 8, .int .i64, .row 4 [.int .i64] 3 8, .bool, .int .i64, .str, .str, .int .i64, .bool, .int .i64, .int .i64, .str, .int .i64, .row 5 aD.ks 104 32], .int .i64], [])),
 (63, ([.agg [.int .i64, .int .i64, .bool, .str, .str, .int .i64, .bool, .int .i64, .int .i64, .str, .int .i64, .row 0 aD.ks 104 32, .str, .str, .bool, .int .i64, .int .i64, .int .i64, .bool, .int .i64, .str, .str, .int .i64, .bool, .int .i64, .int .i64, .str, .int .i64, .row 1 aD.ks 104 32, .bool, .int .i64, .row 2 aG.ks 73 32, .row 3 [.str] 9 16, .row 4 [.int .i64] 3 8]], [])),
 (42, ([.row 0 aF.ks 32 416], [])),
 (10, ([aC.sh, .row 0 aF.ks 32 416], [])),
 (11, ([.bool], [])),
 (104, ([.row 0 [.int .i64] 3 8], [])),
 (93, ([.agg [.row 0 [.int .i64] 3 8, .int .i64], .bool], [])),
 (94, ([.row 0 aB.ks 79 128], [])),
 (74, ([.agg [.int .i64, .row 0 aB.ks 79 128, .row 1 [.int .i64] 3 8, .int .i64]], [])),
 (48, ([.agg [.int .i64, .row 0 aB.ks 79 128, .row 1 [.int .i64] 3 8, .int .i64], .row 2 aF.ks 32 416, .int .i64], [])),
 (13, ([aC.sh, .row 0 aF.ks 32 416, .int .i64], [])),
 (3, ([.bool], []))]
def mvL : List (Nat × Bool) := [(97, true), (19, true), (20, true), (57, true), (104, true), (94, true)]
def naL : List (Nat × List (List (Option (List CK × TypeId × Nat)))) := [(97, [[some ([.int .i64], 3, 8)], [], [some ([.int .i64], 3, 8)]]), (19, [[], [], [some (aF.ks, 32, 416)]]), (20, [[some (aA.ks, 26, 112)], []]), (57, [[some ([.int .u8], 5, 1)], []]), (104, [[some ([.int .i64], 3, 8)], [], []]), (94, [[some (aB.ks, 79, 128)], [], []])]
def hlL : List (Nat × List (Nat × Hint)) := [(16, [(4, ⟨[(1, .ptr 1000000000 0), (2, .ptr 1000000001 0), (3, .row 3003 aA.ks 26 112), (18, .sl aA.ks), (19, .int .i64), (20, .int .i64)], [(42, [.str, .str, .bool, .int .i64, .int .i64, .int .i64, .int .i64, .row 50007 aG.ks 73 32, .sl aA.ks, .int .i64, .sl aB.ks, .sl [.int .i64], .int .i64, .sl [.int .i64], .bool, .int .i64, .str, .str, .int .i64, .bool, .int .i64, .int .i64, .str, .int .i64, .sl aD.ks]), (42, aC.shs)], []⟩), (11, ⟨[(1, .ptr 1000000000 0), (2, .ptr 1000000001 0), (6, .row 3006 aB.ks 79 128), (39, .sl aB.ks), (40, .int .i64), (41, .int .i64)], [(42, [.str, .str, .bool, .int .i64, .int .i64, .int .i64, .int .i64, .row 50007 aG.ks 73 32, .row 50008 aA.ks 26 112, .int .i64, .sl aB.ks, .sl [.int .i64], .int .i64, .sl [.int .i64], .bool, .int .i64, .str, .str, .int .i64, .bool, .int .i64, .int .i64, .str, .int .i64, .sl aD.ks]), (42, aC.shs)], []⟩)]),
 (100, [(5, ⟨[(3, .int .i64), (15, .it 4000)], [], []⟩)]),
 (88, [(4, ⟨[(9, .it 4000)], [], []⟩)]),
 (65, [(4, ⟨[(15, .it 4000)], [], []⟩)]),
 (103, [(4, ⟨[(0, .str), (3, .int .i64)], [], []⟩)]),
 (89, [(4, ⟨[(0, .sl aD.ks), (8, .sl aD.ks), (9, .int .i64), (10, .int .i64)], [], []⟩)]),
 (96, [(3, ⟨[(0, .sl [.int .i64]), (1, .int .i64), (6, .int .i64), (7, .int .i64), (8, .int .i64)], [], []⟩)]),
 (76, [(5, ⟨[(1, .ptr 1000000000 0), (3, .ptr 1000000001 0), (5, .int .i64), (18, .int .i64), (19, .int .i64)], [(36, aQ.shs), (36, aQ.shs)], []⟩)]),
 (73, [(3, ⟨[(1, .ptr 1000000000 0), (2, .ptr 1000000001 0), (3, .row 3003 aB.ks 79 128), (12, .sl aB.ks), (13, .int .i64), (14, .int .i64)], [(38, aH.shs), (38, aH.shs)], []⟩)]),
 (19, [(1, ⟨[(1, .int .i64), (2, .row 3002 aF.ks 32 416), (3, .ptr 1000000000 0), (6, .ptr 1000000001 0)], [(42, aC.shs), (42, aC.shs)], []⟩)]),
 (56, [(2, ⟨[(0, .sl aA.ks), (1, .fn 21 [] []), (7, .int .i64), (8, .int .i64)], [], []⟩)]),
 (20, [(5, ⟨[(0, .row 3000 aA.ks 26 112), (1, .fn 21 [] []), (5, .int .i64), (6, .int .i64)], [], []⟩)]),
 (122, [(6, ⟨[(0, .str), (1, .str), (5, .int .i64)], [], []⟩)]),
 (115, [(11, ⟨[(0, .str), (1, .str), (2, .int .i64), (3, .int .i64), (9, .row 3009 [.str] 9 16), (10, .int .i64)], [], []⟩)]),
 (86, [(6, ⟨[(3, .sl [.str]), (4, .bool), (15, .sl [.str]), (16, .int .i64), (17, .int .i64)], [], []⟩), (9, ⟨[(3, .sl [.str]), (4, .bool), (5, .int .i64), (6, .str), (15, .sl [.str]), (16, .int .i64), (17, .int .i64), (23, .it 4000)], [], []⟩)]),
 (44, [(4, ⟨[(1, .ptr 1000000000 0), (14, .sl aG.ks), (15, .int .i64), (16, .int .i64)], [(42, aC.shs)], []⟩), (15, ⟨[(46, .sl aA.ks), (47, .int .i64), (48, .int .i64)], [], []⟩)]),
 (69, [(5, ⟨[(1, .ptr 1000000000 0), (3, .int .i64), (11, .sl [.int .i64]), (12, .int .i64), (13, .int .i64)], [(36, aQ.shs)], []⟩)]),
 (91, [(2, ⟨[(0, .sl aB.ks), (1, .fn 92 [] [.ptr 2000000000 0]), (7, .int .i64), (8, .int .i64)], [], [(3, [.int .i64])]⟩)]),
 (45, [(9, ⟨[(1, .ptr 1000000000 0), (26, .int .i64), (27, .int .i64)], [(38, aH.shs)], []⟩)]),
 (46, [(5, ⟨[(3, .int .i64), (11, .sl [.int .i64]), (12, .int .i64), (13, .int .i64)], [], []⟩)]),
 (71, [(4, ⟨[(3, .ptr 1000000000 0), (71, .sl aD.ks), (72, .int .i64), (73, .int .i64)], [(26, aA.shs)], []⟩)]),
 (57, [(2, ⟨[(0, .row 3000 [.int .u8] 5 1), (5, .int .u64)], [], []⟩)]),
 (24, [(3, ⟨[(0, .row 3000 [.int .u8] 5 1), (2, .fn 25 [] []), (13, .sl aG.ks), (14, .int .i64), (15, .int .i64)], [], []⟩)]),
 (59, [(3, ⟨[(0, .sl [.bool]), (3, .int .i64), (4, .int .i64)], [], []⟩)]),
 (27, [(8, ⟨[(5, .row 3005 [.int .u8] 5 1), (45, .sl aD.ks), (46, .int .i64), (47, .int .i64)], [], []⟩)]),
 (26, [(3, ⟨[(0, .row 3000 [.int .u8] 5 1), (2, .fn 27 [] []), (13, .sl aA.ks), (14, .int .i64), (15, .int .i64)], [], []⟩)]),
 (28, [(3, ⟨[(0, .row 3000 [.int .u8] 5 1), (2, .fn 29 [] []), (13, .sl aB.ks), (14, .int .i64), (15, .int .i64)], [], []⟩)]),
 (30, [(3, ⟨[(0, .row 3000 [.int .u8] 5 1), (2, .fn 23 [] []), (13, .sl [.int .i64]), (14, .int .i64), (15, .int .i64)], [], []⟩)]),
 (52, [(3, ⟨[(5, .row 3005 aA.ks 26 112), (13, .sl aA.ks), (14, .int .i64), (15, .int .i64)], [], []⟩)]),
 (61, [(6, ⟨[(0, .sl [.int .u8]), (1, .int .i64), (7, .int .u64), (8, .int .i64)], [], []⟩)]),
 (34, [(11, ⟨[(0, .ptr 2000000000 0), (2, .fn 35 [.ptr 2000000000 0] []), (7, .int .i64), (8, .row 3008 aG.ks 73 32)], [], [(85, aE.shs)]⟩)]),
 (62, [(17, ⟨[(4, .ptr 1000000000 0), (7, .ptr 1000000001 0), (8, .ptr 1000000002 0), (10, .int .i64), (11, .int .i64)], [(26, aA.shs), (141, aL.shs), (26, [.str, .str, .int .i64, .bool, .int .i64, .int .i64, .str, .int .i64, .row 50208 aD.ks 104 32])], []⟩)]),
 (36, [(11, ⟨[(0, .ptr 2000000000 0), (2, .fn 37 [.ptr 2000000000 0] []), (7, .int .i64), (8, .row 3008 aA.ks 26 112)], [], [(85, aE.shs)]⟩)]),
 (38, [(11, ⟨[(0, .ptr 2000000000 0), (2, .fn 39 [.ptr 2000000000 0] []), (7, .int .i64), (8, .row 3008 aB.ks 79 128)], [], [(85, aE.shs)]⟩)]),
 (40, [(11, ⟨[(0, .ptr 2000000000 0), (2, .fn 33 [.ptr 2000000000 0] []), (7, .int .i64), (8, .row 3008 [.int .i64] 3 8)], [], [(85, aE.shs)]⟩)]),
 (42, [(3, ⟨[(1, .ptr 1000000000 0), (3, .row 3003 aF.ks 32 416), (9, .int .i64), (10, .int .i64)], [(38, aH.shs)], []⟩)]),
 (11, [(4, ⟨[(0, .sl aF.ks), (1, .sl aF.ks), (5, .int .i64)], [], []⟩)]),
 (3, [(6, ⟨[(1, .sl [.str]), (2, .sl [.int .u8]), (3, .sl [.int .u8]), (9, .ptr 1000000000 0), (10, .ptr 1000000001 0), (11, .int .i64)], [(32, aF.shs), (42, aC.shs)], []⟩), (27, ⟨[(3, .sl [.int .u8]), (10, .ptr 1000000000 0), (16, .ptr 1000000001 0), (19, .int .i64)], [(42, aC.shs), (42, aC.shs)], []⟩)])]
def hrL : List (Nat × List (Nat × Hint)) := [(100, [(3, ⟨[(0, .str)], [], []⟩)]),
 (65, [(3, ⟨[(0, .str)], [], []⟩), (7, ⟨[(3, .int .i64), (4, .int .i32), (5, .bool), (15, .it 4000)], [], []⟩)]),
 (103, [(3, ⟨[(0, .str)], [], []⟩)]),
 (43, [(3, ⟨[(1, .ptr 1000000000 0)], [(42, aC.shs)], []⟩), (5, ⟨[(1, .ptr 1000000000 0)], [(42, aC.shs)], []⟩)]),
 (115, [(7, ⟨[(0, .str), (1, .str), (2, .int .i64), (3, .int .i64)], [], []⟩), (17, ⟨[(0, .str), (9, .row 3009 [.str] 9 16), (10, .int .i64)], [], []⟩)]),
 (70, [(4, ⟨[(5, .ptr 1000000000 0)], [(79, aB.shs)], []⟩)]),
 (45, [(3, ⟨[(1, .ptr 1000000000 0)], [(38, aH.shs)], []⟩)]),
 (71, [(3, ⟨[(2, .ptr 1000000000 0), (3, .ptr 1000000001 0)], [(26, aA.shs), (26, aA.shs)], []⟩)]),
 (59, [(5, ⟨[(0, .sl [.bool]), (3, .int .i64), (4, .int .i64), (10, .int .i64), (11, .bool)], [], []⟩)]),
 (18, [(6, ⟨[(5, .ptr 1000000000 0), (11, .row 3011 aA.ks 26 112)], [(26, aA.shs)], []⟩)]),
 (5, [(4, ⟨[(2, .int .i64), (3, .int .i64), (4, .ptr 1000000000 0), (5, .ptr 1000000001 0), (8, .ptr 1000000002 0), (10, .ptr 1000000003 0)], [(42, aC.shs), (26, aA.shs), (42, aC.shs), (42, [.str, .str, .bool, .int .i64, .int .i64, .int .i64, .int .i64, .row 50307 aG.ks 73 32, .row 50308 aA.ks 26 112, .int .i64, .row 50310 aB.ks 79 128, .row 50311 [.int .i64] 3 8, .int .i64, .row 50313 [.int .i64] 3 8, .bool, .int .i64, .str, .str, .int .i64, .bool, .int .i64, .int .i64, .str, .int .i64, .row 50324 aD.ks 104 32])], []⟩)]),
 (61, [(3, ⟨[(0, .sl [.int .u8]), (1, .int .i64)], [], []⟩), (11, ⟨[(0, .sl [.int .u8]), (1, .int .i64), (7, .int .u64), (8, .int .i64), (9, .int .u8), (39, .int .i64), (40, .bool), (41, .bool), (44, .bool)], [], []⟩)]),
 (62, [(19, ⟨[(4, .ptr 1000000000 0), (7, .ptr 1000000001 0), (8, .ptr 1000000002 0), (10, .int .i64), (11, .int .i64), (62, .ptr 1000000001 0), (63, .ptr 1000000001 0), (64, .ptr 1000000001 2), (65, .int .i64), (66, .bool)], [(26, aA.shs), (141, aL.shs), (26, [.str, .str, .int .i64, .bool, .int .i64, .int .i64, .str, .int .i64, .row 50208 aD.ks 104 32])], []⟩), (22, ⟨[(4, .ptr 1000000000 0), (7, .ptr 1000000001 0), (8, .ptr 1000000002 0)], [(26, aA.shs), (141, aL.shs), (26, [.str, .str, .int .i64, .bool, .int .i64, .int .i64, .str, .int .i64, .row 50208 aD.ks 104 32])], []⟩), (24, ⟨[(4, .ptr 1000000000 0), (7, .ptr 1000000001 0), (8, .ptr 1000000002 0)], [(26, aA.shs), (141, aL.shs), (26, [.str, .str, .int .i64, .bool, .int .i64, .int .i64, .str, .int .i64, .row 50208 aD.ks 104 32])], []⟩)]),
 (9, [(19, ⟨[(0, .sl [.int .u8]), (2, .ptr 1000000000 0), (4, .ptr 1000000001 0), (5, .ptr 1000000002 0)], [(42, aC.shs), (85, aE.shs), (42, [.str, .str, .bool, .int .i64, .int .i64, .int .i64, .int .i64, .row 50207 aG.ks 73 32, .row 50208 aA.ks 26 112, .int .i64, .row 50210 aB.ks 79 128, .row 50211 [.int .i64] 3 8, .int .i64, .row 50213 [.int .i64] 3 8, .bool, .int .i64, .str, .str, .int .i64, .bool, .int .i64, .int .i64, .str, .int .i64, .row 50224 aD.ks 104 32])], []⟩), (21, ⟨[(2, .ptr 1000000000 0), (4, .ptr 1000000001 0), (5, .ptr 1000000002 0)], [(42, aC.shs), (85, aE.shs), (42, [.str, .str, .bool, .int .i64, .int .i64, .int .i64, .int .i64, .row 50207 aG.ks 73 32, .row 50208 aA.ks 26 112, .int .i64, .row 50210 aB.ks 79 128, .row 50211 [.int .i64] 3 8, .int .i64, .row 50213 [.int .i64] 3 8, .bool, .int .i64, .str, .str, .int .i64, .bool, .int .i64, .int .i64, .str, .int .i64, .row 50224 aD.ks 104 32])], []⟩)]),
 (48, [(5, ⟨[(2, .ptr 1000000000 0), (3, .ptr 1000000001 0), (4, .ptr 1000000002 0), (7, .int .i64), (8, .ptr 1000000003 0)], [(38, aH.shs), (32, aF.shs), (38, aH.shs), (79, aB.shs)], []⟩)]),
 (3, [(3, ⟨[(0, .int .i64), (1, .sl [.str]), (2, .sl [.int .u8]), (3, .sl [.int .u8])], [], []⟩), (13, ⟨[(1, .sl [.str]), (2, .sl [.int .u8]), (3, .sl [.int .u8]), (9, .ptr 1000000000 0), (10, .ptr 1000000001 0), (11, .int .i64), (12, .int .i64)], [(32, aF.shs), (42, aC.shs)], []⟩), (19, ⟨[(3, .sl [.int .u8]), (9, .ptr 1000000000 0), (10, .ptr 1000000001 0), (13, .row 3013 aF.ks 32 416), (14, .row 3014 [.int .u8] 5 1)], [(32, aF.shs), (42, aC.shs)], []⟩), (22, ⟨[(3, .sl [.int .u8]), (9, .ptr 1000000000 0), (10, .ptr 1000000001 0), (13, .row 3013 aF.ks 32 416), (16, .ptr 1000000002 0)], [(32, aF.shs), (42, aC.shs), (42, [.str, .str, .bool, .int .i64, .int .i64, .int .i64, .int .i64, .row 50207 aG.ks 73 32, .row 50208 aA.ks 26 112, .int .i64, .row 50210 aB.ks 79 128, .row 50211 [.int .i64] 3 8, .int .i64, .row 50213 [.int .i64] 3 8, .bool, .int .i64, .str, .str, .int .i64, .bool, .int .i64, .int .i64, .str, .int .i64, .row 50224 aD.ks 104 32])], []⟩), (26, ⟨[(3, .sl [.int .u8]), (10, .ptr 1000000000 0), (16, .ptr 1000000001 0)], [(42, aC.shs), (42, aC.shs)], []⟩), (35, ⟨[(3, .sl [.int .u8]), (10, .ptr 1000000000 0), (16, .ptr 1000000001 0), (19, .int .i64), (20, .ptr 1000000002 0)], [(42, aC.shs), (42, aC.shs), (32, aF.shs)], []⟩)])]
def eqL : List (Nat × List CK) := [(104, [.str, .str])]
def prL : List (Nat × Prim) := [(124, .indexByte), (128, .countByte)]
def lbL : List (Nat × LibK) := [(97, .insert [.int .i64] 3 8), (104, .spec (aiH [.int .i64] 3 8)), (94, .spec (aiH aB.ks 79 128))]
def SE : Env := { fn := assoc fnL, ty := assoc tyL, tm := assoc tmL, mv := fun f => match assoc mvL f with | some b => b | none => false, eqt := assoc eqL, pv := fun _ => none, hl := fun f r => match assoc hlL f with | some l => assoc l r | none => none, hr := fun f r => match assoc hrL f with | some l => assoc l r | none => none, prim := assoc prL, lib := assoc lbL, na := fun f => match assoc naL f with | some l => l | none => [], cut := fun d t => (Nat.beq d 41 && Nat.beq t 33) }
def cM : ((List aD)) → Out := fun r => .ret [.row 0] [] [⟨aD.ks, 104, 32, (List.map aD.enc r)⟩]
theorem mD : ∀ y z, cM y = cM z → y = z := fun y z h => map_inj aD.inj (congrArg (fun o => eN 0 (Out.rws o)) h)
def bR : (aA) → Out := fun r => .ret [.agg [.d (.str r.Topic), .d (.str r.Payload), .d (.int .i64 r.Level), .d (.bool r.Retain), .d (.int .i64 r.Priority), .d (.int .i64 r.Expires), .d (.str r.From), .d (.int .i64 r.Seq), .row 0]] [] [⟨aD.ks, 104, 32, (List.map aD.enc r.Props)⟩]
theorem dG : ∀ y z, bR y = bR z → y = z := fun y z h => aA.inj (congrArg (fun o => [avD (aO 0 (cellsOf (aO 0 (Out.res o)))), avD (aO 1 (cellsOf (aO 0 (Out.res o)))), avD (aO 2 (cellsOf (aO 0 (Out.res o)))), avD (aO 3 (cellsOf (aO 0 (Out.res o)))), avD (aO 4 (cellsOf (aO 0 (Out.res o)))), avD (aO 5 (cellsOf (aO 0 (Out.res o)))), avD (aO 6 (cellsOf (aO 0 (Out.res o)))), avD (aO 7 (cellsOf (aO 0 (Out.res o)))), D.sl aD.ks (eN 0 (Out.rws o))]) h)
def cR : (aH) → Out := fun r => .ret [.agg [.d (.int .i64 r.Limit), .row 0, .row 1, .d (.int .i64 r.Pool.Last)]] [] [⟨aB.ks, 79, 128, (List.map aB.enc r.Items)⟩, ⟨[.int .i64], 3, 8, (List.map (encI .i64) r.Pool.Used)⟩]
theorem gZ : ∀ y z, cR y = cR z → y = z := fun y z h => aH.inj (congrArg (fun o => [avD (aO 0 (cellsOf (aO 0 (Out.res o)))), D.sl aB.ks (eN 0 (Out.rws o)), D.sl [.int .i64] (eN 1 (Out.rws o)), avD (aO 3 (cellsOf (aO 0 (Out.res o))))]) h)
def cW : (aC) → Out := fun r => .ret [.agg [.d (.str r.Client), .d (.str r.User), .d (.bool r.Online), .d (.int .i64 r.Conn), .d (.int .i64 r.Expiry), .d (.int .i64 r.Until), .d (.int .i64 r.Dropped), .row 0, .row 1, .d (.int .i64 r.Out.Limit), .row 2, .row 3, .d (.int .i64 r.Out.Pool.Last), .row 4, .d (.bool r.Will.Set), .d (.int .i64 r.Will.Delay), .d (.str r.Will.Message.Topic), .d (.str r.Will.Message.Payload), .d (.int .i64 r.Will.Message.Level), .d (.bool r.Will.Message.Retain), .d (.int .i64 r.Will.Message.Priority), .d (.int .i64 r.Will.Message.Expires), .d (.str r.Will.Message.From), .d (.int .i64 r.Will.Message.Seq), .row 5]] [] [⟨aG.ks, 73, 32, (List.map aG.enc r.Subs)⟩, ⟨aA.ks, 26, 112, (List.map aA.enc r.Queue)⟩, ⟨aB.ks, 79, 128, (List.map aB.enc r.Out.Items)⟩, ⟨[.int .i64], 3, 8, (List.map (encI .i64) r.Out.Pool.Used)⟩, ⟨[.int .i64], 3, 8, (List.map (encI .i64) r.In.IDs)⟩, ⟨aD.ks, 104, 32, (List.map aD.enc r.Will.Message.Props)⟩]
theorem kV : ∀ y z, cW y = cW z → y = z := fun y z h => aC.inj (congrArg (fun o => [avD (aO 0 (cellsOf (aO 0 (Out.res o)))), avD (aO 1 (cellsOf (aO 0 (Out.res o)))), avD (aO 2 (cellsOf (aO 0 (Out.res o)))), avD (aO 3 (cellsOf (aO 0 (Out.res o)))), avD (aO 4 (cellsOf (aO 0 (Out.res o)))), avD (aO 5 (cellsOf (aO 0 (Out.res o)))), avD (aO 6 (cellsOf (aO 0 (Out.res o)))), D.sl aG.ks (eN 0 (Out.rws o)), D.sl aA.ks (eN 1 (Out.rws o)), avD (aO 9 (cellsOf (aO 0 (Out.res o)))), D.sl aB.ks (eN 2 (Out.rws o)), D.sl [.int .i64] (eN 3 (Out.rws o)), avD (aO 12 (cellsOf (aO 0 (Out.res o)))), D.sl [.int .i64] (eN 4 (Out.rws o)), avD (aO 14 (cellsOf (aO 0 (Out.res o)))), avD (aO 15 (cellsOf (aO 0 (Out.res o)))), avD (aO 16 (cellsOf (aO 0 (Out.res o)))), avD (aO 17 (cellsOf (aO 0 (Out.res o)))), avD (aO 18 (cellsOf (aO 0 (Out.res o)))), avD (aO 19 (cellsOf (aO 0 (Out.res o)))), avD (aO 20 (cellsOf (aO 0 (Out.res o)))), avD (aO 21 (cellsOf (aO 0 (Out.res o)))), avD (aO 22 (cellsOf (aO 0 (Out.res o)))), avD (aO 23 (cellsOf (aO 0 (Out.res o)))), D.sl aD.ks (eN 5 (Out.rws o))]) h)
def dS : ((List aG)) → Out := fun r => .ret [.row 0] [] [⟨aG.ks, 73, 32, (List.map aG.enc r)⟩]
theorem tL : ∀ y z, dS y = dS z → y = z := fun y z h => map_inj aG.inj (congrArg (fun o => eN 0 (Out.rws o)) h)
def bM : ((List Int)) → Out := fun r => .ret [.row 0] [] [⟨[.int .i64], 3, 8, (List.map (encI .i64) r)⟩]
theorem eJ : ∀ y z, bM y = bM z → y = z := fun y z h => map_inj (qU _) (congrArg (fun o => eN 0 (Out.rws o)) h)
def aI : (Bool) → Out := fun r => .ret [.d (.bool r)] [] []
theorem bE : ∀ y z, aI y = aI z → y = z := fun y z h => congrArg (fun o => bZ (avD (aO 0 (Out.res o)))) h
def dB : (aC) → Out := fun r => .ret [aC.av r] [] []
theorem lU : ∀ y z, dB y = dB z → y = z := fun y z h => aC.inj (congrArg (fun o => List.map avD (cellsOf (aO 0 (Out.res o)))) h)
def aJ : (Int) → Out := fun r => .ret [.d (.int .i64 r)] [] []
theorem bK : ∀ y z, aJ y = aJ z → y = z := fun y z h => congrArg (fun o => aS (avD (aO 0 (Out.res o)))) h
def bX : (Int × Bool) → Out := fun r => .ret [.d (.int .i64 r.1), .d (.bool r.2)] [] []
theorem jH : ∀ y z, bX y = bX z → y = z := fun y z h => Prod.ext (congrArg (fun o => aS (avD (aO 0 (Out.res o)))) h) (congrArg (fun o => bZ (avD (aO 1 (Out.res o)))) h)
def mC : (Int × aQ × Int) → Out := fun r => .ret [.d (.int .i64 r.1), .agg [.row 0, .d (.int .i64 r.2.1.Last)], .d (.int .i64 r.2.2)] [] [⟨[.int .i64], 3, 8, (List.map (encI .i64) r.2.1.Used)⟩]
theorem ah3 : ∀ y z, mC y = mC z → y = z := fun y z h => Prod.ext (congrArg (fun o => aS (avD (aO 0 (Out.res o)))) h) (Prod.ext (aQ.inj (congrArg (fun o => [D.sl [.int .i64] (eN 0 (Out.rws o)), avD (aO 1 (cellsOf (aO 1 (Out.res o))))]) h)) (congrArg (fun o => aS (avD (aO 2 (Out.res o)))) h))
def cX : (aF) → Out := fun r => .ret [.agg [.d (.int .i64 r.Kind), .d (.int .i64 r.ID), .d (.bool r.Dup), .d (.str r.Message.Topic), .d (.str r.Message.Payload), .d (.int .i64 r.Message.Level), .d (.bool r.Message.Retain), .d (.int .i64 r.Message.Priority), .d (.int .i64 r.Message.Expires), .d (.str r.Message.From), .d (.int .i64 r.Message.Seq), .row 0, .d (.str r.Client), .d (.str r.User), .d (.bool r.Clean), .d (.int .i64 r.Keep), .d (.int .i64 r.Expiry), .d (.int .i64 r.Window), .d (.bool r.Will.Set), .d (.int .i64 r.Will.Delay), .d (.str r.Will.Message.Topic), .d (.str r.Will.Message.Payload), .d (.int .i64 r.Will.Message.Level), .d (.bool r.Will.Message.Retain), .d (.int .i64 r.Will.Message.Priority), .d (.int .i64 r.Will.Message.Expires), .d (.str r.Will.Message.From), .d (.int .i64 r.Will.Message.Seq), .row 1, .d (.bool r.Present), .d (.int .i64 r.Code), .row 2, .row 3, .row 4]] [] [⟨aD.ks, 104, 32, (List.map aD.enc r.Message.Props)⟩, ⟨aD.ks, 104, 32, (List.map aD.enc r.Will.Message.Props)⟩, ⟨aG.ks, 73, 32, (List.map aG.enc r.Subs)⟩, ⟨[.str], 9, 16, (List.map bU r.Filters)⟩, ⟨[.int .i64], 3, 8, (List.map (encI .i64) r.Codes)⟩]
theorem kW : ∀ y z, cX y = cX z → y = z := fun y z h => aF.inj (congrArg (fun o => [avD (aO 0 (cellsOf (aO 0 (Out.res o)))), avD (aO 1 (cellsOf (aO 0 (Out.res o)))), avD (aO 2 (cellsOf (aO 0 (Out.res o)))), avD (aO 3 (cellsOf (aO 0 (Out.res o)))), avD (aO 4 (cellsOf (aO 0 (Out.res o)))), avD (aO 5 (cellsOf (aO 0 (Out.res o)))), avD (aO 6 (cellsOf (aO 0 (Out.res o)))), avD (aO 7 (cellsOf (aO 0 (Out.res o)))), avD (aO 8 (cellsOf (aO 0 (Out.res o)))), avD (aO 9 (cellsOf (aO 0 (Out.res o)))), avD (aO 10 (cellsOf (aO 0 (Out.res o)))), D.sl aD.ks (eN 0 (Out.rws o)), avD (aO 12 (cellsOf (aO 0 (Out.res o)))), avD (aO 13 (cellsOf (aO 0 (Out.res o)))), avD (aO 14 (cellsOf (aO 0 (Out.res o)))), avD (aO 15 (cellsOf (aO 0 (Out.res o)))), avD (aO 16 (cellsOf (aO 0 (Out.res o)))), avD (aO 17 (cellsOf (aO 0 (Out.res o)))), avD (aO 18 (cellsOf (aO 0 (Out.res o)))), avD (aO 19 (cellsOf (aO 0 (Out.res o)))), avD (aO 20 (cellsOf (aO 0 (Out.res o)))), avD (aO 21 (cellsOf (aO 0 (Out.res o)))), avD (aO 22 (cellsOf (aO 0 (Out.res o)))), avD (aO 23 (cellsOf (aO 0 (Out.res o)))), avD (aO 24 (cellsOf (aO 0 (Out.res o)))), avD (aO 25 (cellsOf (aO 0 (Out.res o)))), avD (aO 26 (cellsOf (aO 0 (Out.res o)))), avD (aO 27 (cellsOf (aO 0 (Out.res o)))), D.sl aD.ks (eN 1 (Out.rws o)), avD (aO 29 (cellsOf (aO 0 (Out.res o)))), avD (aO 30 (cellsOf (aO 0 (Out.res o)))), D.sl aG.ks (eN 2 (Out.rws o)), D.sl [.str] (eN 3 (Out.rws o)), D.sl [.int .i64] (eN 4 (Out.rws o))]) h)
def iS : (aH × aF × Int) → Out := fun r => .ret [.agg [.d (.int .i64 r.1.Limit), .row 0, .row 1, .d (.int .i64 r.1.Pool.Last)], .agg [.d (.int .i64 r.2.1.Kind), .d (.int .i64 r.2.1.ID), .d (.bool r.2.1.Dup), .d (.str r.2.1.Message.Topic), .d (.str r.2.1.Message.Payload), .d (.int .i64 r.2.1.Message.Level), .d (.bool r.2.1.Message.Retain), .d (.int .i64 r.2.1.Message.Priority), .d (.int .i64 r.2.1.Message.Expires), .d (.str r.2.1.Message.From), .d (.int .i64 r.2.1.Message.Seq), .row 2, .d (.str r.2.1.Client), .d (.str r.2.1.User), .d (.bool r.2.1.Clean), .d (.int .i64 r.2.1.Keep), .d (.int .i64 r.2.1.Expiry), .d (.int .i64 r.2.1.Window), .d (.bool r.2.1.Will.Set), .d (.int .i64 r.2.1.Will.Delay), .d (.str r.2.1.Will.Message.Topic), .d (.str r.2.1.Will.Message.Payload), .d (.int .i64 r.2.1.Will.Message.Level), .d (.bool r.2.1.Will.Message.Retain), .d (.int .i64 r.2.1.Will.Message.Priority), .d (.int .i64 r.2.1.Will.Message.Expires), .d (.str r.2.1.Will.Message.From), .d (.int .i64 r.2.1.Will.Message.Seq), .row 3, .d (.bool r.2.1.Present), .d (.int .i64 r.2.1.Code), .row 4, .row 5, .row 6], .d (.int .i64 r.2.2)] [] [⟨aB.ks, 79, 128, (List.map aB.enc r.1.Items)⟩, ⟨[.int .i64], 3, 8, (List.map (encI .i64) r.1.Pool.Used)⟩, ⟨aD.ks, 104, 32, (List.map aD.enc r.2.1.Message.Props)⟩, ⟨aD.ks, 104, 32, (List.map aD.enc r.2.1.Will.Message.Props)⟩, ⟨aG.ks, 73, 32, (List.map aG.enc r.2.1.Subs)⟩, ⟨[.str], 9, 16, (List.map bU r.2.1.Filters)⟩, ⟨[.int .i64], 3, 8, (List.map (encI .i64) r.2.1.Codes)⟩]
theorem ad5 : ∀ y z, iS y = iS z → y = z := fun y z h => Prod.ext (aH.inj (congrArg (fun o => [avD (aO 0 (cellsOf (aO 0 (Out.res o)))), D.sl aB.ks (eN 0 (Out.rws o)), D.sl [.int .i64] (eN 1 (Out.rws o)), avD (aO 3 (cellsOf (aO 0 (Out.res o))))]) h)) (Prod.ext (aF.inj (congrArg (fun o => [avD (aO 0 (cellsOf (aO 1 (Out.res o)))), avD (aO 1 (cellsOf (aO 1 (Out.res o)))), avD (aO 2 (cellsOf (aO 1 (Out.res o)))), avD (aO 3 (cellsOf (aO 1 (Out.res o)))), avD (aO 4 (cellsOf (aO 1 (Out.res o)))), avD (aO 5 (cellsOf (aO 1 (Out.res o)))), avD (aO 6 (cellsOf (aO 1 (Out.res o)))), avD (aO 7 (cellsOf (aO 1 (Out.res o)))), avD (aO 8 (cellsOf (aO 1 (Out.res o)))), avD (aO 9 (cellsOf (aO 1 (Out.res o)))), avD (aO 10 (cellsOf (aO 1 (Out.res o)))), D.sl aD.ks (eN 2 (Out.rws o)), avD (aO 12 (cellsOf (aO 1 (Out.res o)))), avD (aO 13 (cellsOf (aO 1 (Out.res o)))), avD (aO 14 (cellsOf (aO 1 (Out.res o)))), avD (aO 15 (cellsOf (aO 1 (Out.res o)))), avD (aO 16 (cellsOf (aO 1 (Out.res o)))), avD (aO 17 (cellsOf (aO 1 (Out.res o)))), avD (aO 18 (cellsOf (aO 1 (Out.res o)))), avD (aO 19 (cellsOf (aO 1 (Out.res o)))), avD (aO 20 (cellsOf (aO 1 (Out.res o)))), avD (aO 21 (cellsOf (aO 1 (Out.res o)))), avD (aO 22 (cellsOf (aO 1 (Out.res o)))), avD (aO 23 (cellsOf (aO 1 (Out.res o)))), avD (aO 24 (cellsOf (aO 1 (Out.res o)))), avD (aO 25 (cellsOf (aO 1 (Out.res o)))), avD (aO 26 (cellsOf (aO 1 (Out.res o)))), avD (aO 27 (cellsOf (aO 1 (Out.res o)))), D.sl aD.ks (eN 3 (Out.rws o)), avD (aO 29 (cellsOf (aO 1 (Out.res o)))), avD (aO 30 (cellsOf (aO 1 (Out.res o)))), D.sl aG.ks (eN 4 (Out.rws o)), D.sl [.str] (eN 5 (Out.rws o)), D.sl [.int .i64] (eN 6 (Out.rws o))]) h)) (congrArg (fun o => aS (avD (aO 2 (Out.res o)))) h))
def cQ : (aC × (List aF)) → Out := fun r => .ret [aC.av r.1, .row 0] [] [⟨aF.ks, 32, 416, (List.map aF.enc r.2)⟩]
theorem lW : ∀ y z, cQ y = cQ z → y = z := fun y z h => Prod.ext (aC.inj (congrArg (fun o => List.map avD (cellsOf (aO 0 (Out.res o)))) h)) (map_inj aF.inj (congrArg (fun o => eN 0 (Out.rws o)) h))
def bD : ((List aA)) → Out := fun r => .ret [.row 0] [] [⟨aA.ks, 26, 112, (List.map aA.enc r)⟩]
theorem iZ : ∀ y z, bD y = bD z → y = z := fun y z h => map_inj aA.inj (congrArg (fun o => eN 0 (Out.rws o)) h)
def dF : (Str × Bool) → Out := fun r => .ret [.d (.str r.1), .d (.bool r.2)] [] []
theorem sE : ∀ y z, dF y = dF z → y = z := fun y z h => Prod.ext (congrArg (fun o => bI (avD (aO 0 (Out.res o)))) h) (congrArg (fun o => bZ (avD (aO 1 (Out.res o)))) h)
def dA : (Str × Str × Bool) → Out := fun r => .ret [.d (.str r.1), .d (.str r.2.1), .d (.bool r.2.2)] [] []
theorem sA : ∀ y z, dA y = dA z → y = z := fun y z h => Prod.ext (congrArg (fun o => bI (avD (aO 0 (Out.res o)))) h) (Prod.ext (congrArg (fun o => bI (avD (aO 1 (Out.res o)))) h) (congrArg (fun o => bZ (avD (aO 2 (Out.res o)))) h))
def cB : ((List Str)) → Out := fun r => .ret [.d (.sl [.str] (List.map bU r))] [] []
theorem qQ : ∀ y z, cB y = cB z → y = z := fun y z h => map_inj akj (congrArg (fun o => dSl (avD (aO 0 (Out.res o)))) h)
def iA : (Bool × aG) → Out := fun r => .ret [.d (.bool r.1)] [⟨73, (aG.avs r.2)⟩] []
theorem abZ : ∀ y z, iA y = iA z → y = z := fun y z h => Prod.ext (congrArg (fun o => bZ (avD (aO 0 (Out.res o)))) h) (aG.inj (congrArg (fun o => List.map avD (sO 0 (Out.bxs o))) h))
def jP : (Bool × Int) → Out := fun r => .ret [.d (.bool r.1)] [⟨3, [.d (.int .i64 r.2)]⟩] []
theorem adC : ∀ y z, jP y = jP z → y = z := fun y z h => Prod.ext (congrArg (fun o => bZ (avD (aO 0 (Out.res o)))) h) (congrArg (fun o => aS (avD (aO 0 (sO 0 (Out.bxs o))))) h)
def cH : (Int × Int) → Out := fun r => .ret [.d (.int .i64 r.1)] [⟨3, [.d (.int .i64 r.2)]⟩] []
theorem pC : ∀ y z, cH y = cH z → y = z := fun y z h => Prod.ext (congrArg (fun o => aS (avD (aO 0 (Out.res o)))) h) (congrArg (fun o => aS (avD (aO 0 (sO 0 (Out.bxs o))))) h)
def aT : ((List Int)) → Out := fun r => .ret [.row 0] [] [⟨[.int .u8], 5, 1, (List.map (encI .u8) r)⟩]
theorem bH : ∀ y z, aT y = aT z → y = z := fun y z h => map_inj (qU _) (congrArg (fun o => eN 0 (Out.rws o)) h)
def o0 : (Int) → Out := fun r => .ret [.d (.int .u64 r)] [] []
theorem ajw : ∀ y z, o0 y = o0 z → y = z := fun y z h => congrArg (fun o => aS (avD (aO 0 (Out.res o)))) h
def kB : ((List Int) × Int) → Out := fun r => .ret [.row 0, .d (.int .i64 r.2)] [] [⟨[.int .u8], 5, 1, (List.map (encI .u8) r.1)⟩]
theorem aeR : ∀ y z, kB y = kB z → y = z := fun y z h => Prod.ext (map_inj (qU _) (congrArg (fun o => eN 0 (Out.rws o)) h)) (congrArg (fun o => aS (avD (aO 1 (Out.res o)))) h)
def jX : ((List aA) × (List aA) × Bool) → Out := fun r => .ret [.row 0, .row 1, .d (.bool r.2.2)] [] [⟨aA.ks, 26, 112, (List.map aA.enc r.1)⟩, ⟨aA.ks, 26, 112, (List.map aA.enc r.2.1)⟩]
theorem ajD : ∀ y z, jX y = jX z → y = z := fun y z h => Prod.ext (map_inj aA.inj (congrArg (fun o => eN 0 (Out.rws o)) h)) (Prod.ext (map_inj aA.inj (congrArg (fun o => eN 1 (Out.rws o)) h)) (congrArg (fun o => bZ (avD (aO 2 (Out.res o)))) h))
def jN : (aC × Bool) → Out := fun r => .ret [aC.av r.1, .d (.bool r.2)] [] []
theorem afC : ∀ y z, jN y = jN z → y = z := fun y z h => Prod.ext (aC.inj (congrArg (fun o => List.map avD (cellsOf (aO 0 (Out.res o)))) h)) (congrArg (fun o => bZ (avD (aO 1 (Out.res o)))) h)
def fW : (Int × Int × Int) → Out := fun r => .ret [.d (.int .i64 r.1), .d (.int .i64 r.2.1), .d (.int .i64 r.2.2)] [] []
theorem aaP : ∀ y z, fW y = fW z → y = z := fun y z h => Prod.ext (congrArg (fun o => aS (avD (aO 0 (Out.res o)))) h) (Prod.ext (congrArg (fun o => aS (avD (aO 1 (Out.res o)))) h) (congrArg (fun o => aS (avD (aO 2 (Out.res o)))) h))
def jZ : (Str × Int × Int) → Out := fun r => .ret [.d (.str r.1), .d (.int .i64 r.2.1), .d (.int .i64 r.2.2)] [] []
theorem adw : ∀ y z, jZ y = jZ z → y = z := fun y z h => Prod.ext (congrArg (fun o => bI (avD (aO 0 (Out.res o)))) h) (Prod.ext (congrArg (fun o => aS (avD (aO 1 (Out.res o)))) h) (congrArg (fun o => aS (avD (aO 2 (Out.res o)))) h))
def dZ : (Str × aE) → Out := fun r => .ret [.d (.str r.1)] [⟨85, (aE.avs r.2)⟩] []
theorem nA : ∀ y z, dZ y = dZ z → y = z := fun y z h => Prod.ext (congrArg (fun o => bI (avD (aO 0 (Out.res o)))) h) (aE.inj (congrArg (fun o => List.map avD (sO 0 (Out.bxs o))) h))
def bP : (Int × aE) → Out := fun r => .ret [.d (.int .i64 r.1)] [⟨85, (aE.avs r.2)⟩] []
theorem bY : ∀ y z, bP y = bP z → y = z := fun y z h => Prod.ext (congrArg (fun o => aS (avD (aO 0 (Out.res o)))) h) (aE.inj (congrArg (fun o => List.map avD (sO 0 (Out.bxs o))) h))
def dY : (Bool × aE) → Out := fun r => .ret [.d (.bool r.1)] [⟨85, (aE.avs r.2)⟩] []
theorem rP : ∀ y z, dY y = dY z → y = z := fun y z h => Prod.ext (congrArg (fun o => bZ (avD (aO 0 (Out.res o)))) h) (aE.inj (congrArg (fun o => List.map avD (sO 0 (Out.bxs o))) h))
def gF : (aG × aE) → Out := fun r => .ret [aG.av r.1] [⟨85, (aE.avs r.2)⟩] []
theorem aab : ∀ y z, gF y = gF z → y = z := fun y z h => Prod.ext (aG.inj (congrArg (fun o => List.map avD (cellsOf (aO 0 (Out.res o)))) h)) (aE.inj (congrArg (fun o => List.map avD (sO 0 (Out.bxs o))) h))
def eT : ((List aG) × aE) → Out := fun r => .ret [.row 0] [⟨85, (aE.avs r.2)⟩] [⟨aG.ks, 73, 32, (List.map aG.enc r.1)⟩]
theorem zW : ∀ y z, eT y = eT z → y = z := fun y z h => Prod.ext (map_inj aG.inj (congrArg (fun o => eN 0 (Out.rws o)) h)) (aE.inj (congrArg (fun o => List.map avD (sO 0 (Out.bxs o))) h))
def fS : (Str × aL) → Out := fun r => .ret [.d (.str r.1)] [⟨141, (aL.avs r.2)⟩] []
theorem hH : ∀ y z, fS y = fS z → y = z := fun y z h => Prod.ext (congrArg (fun o => bI (avD (aO 0 (Out.res o)))) h) (aL.inj (congrArg (fun o => List.map avD (sO 0 (Out.bxs o))) h))
def gJ : (Int × aL) → Out := fun r => .ret [.d (.int .i64 r.1)] [⟨141, (aL.avs r.2)⟩] []
theorem gI : ∀ y z, gJ y = gJ z → y = z := fun y z h => Prod.ext (congrArg (fun o => aS (avD (aO 0 (Out.res o)))) h) (aL.inj (congrArg (fun o => List.map avD (sO 0 (Out.bxs o))) h))
def fT : (aL) → Out := fun r => .ret [] [⟨141, (aL.avs r)⟩] []
theorem nG : ∀ y z, fT y = fT z → y = z := fun y z h => aL.inj (congrArg (fun o => List.map avD (sO 0 (Out.bxs o))) h)
def fF : (aA × Int × Int) → Out := fun r => .ret [.agg [.d (.str r.1.Topic), .d (.str r.1.Payload), .d (.int .i64 r.1.Level), .d (.bool r.1.Retain), .d (.int .i64 r.1.Priority), .d (.int .i64 r.1.Expires), .d (.str r.1.From), .d (.int .i64 r.1.Seq), .row 0], .d (.int .i64 r.2.1), .d (.int .i64 r.2.2)] [] [⟨aD.ks, 104, 32, (List.map aD.enc r.1.Props)⟩]
theorem ago : ∀ y z, fF y = fF z → y = z := fun y z h => Prod.ext (aA.inj (congrArg (fun o => [avD (aO 0 (cellsOf (aO 0 (Out.res o)))), avD (aO 1 (cellsOf (aO 0 (Out.res o)))), avD (aO 2 (cellsOf (aO 0 (Out.res o)))), avD (aO 3 (cellsOf (aO 0 (Out.res o)))), avD (aO 4 (cellsOf (aO 0 (Out.res o)))), avD (aO 5 (cellsOf (aO 0 (Out.res o)))), avD (aO 6 (cellsOf (aO 0 (Out.res o)))), avD (aO 7 (cellsOf (aO 0 (Out.res o)))), D.sl aD.ks (eN 0 (Out.rws o))]) h)) (Prod.ext (congrArg (fun o => aS (avD (aO 1 (Out.res o)))) h) (congrArg (fun o => aS (avD (aO 2 (Out.res o)))) h))
def cV : (aA × aE) → Out := fun r => .ret [.agg [.d (.str r.1.Topic), .d (.str r.1.Payload), .d (.int .i64 r.1.Level), .d (.bool r.1.Retain), .d (.int .i64 r.1.Priority), .d (.int .i64 r.1.Expires), .d (.str r.1.From), .d (.int .i64 r.1.Seq), .row 0]] [⟨85, (aE.avs r.2)⟩] [⟨aD.ks, 104, 32, (List.map aD.enc r.1.Props)⟩]
theorem lO : ∀ y z, cV y = cV z → y = z := fun y z h => Prod.ext (aA.inj (congrArg (fun o => [avD (aO 0 (cellsOf (aO 0 (Out.res o)))), avD (aO 1 (cellsOf (aO 0 (Out.res o)))), avD (aO 2 (cellsOf (aO 0 (Out.res o)))), avD (aO 3 (cellsOf (aO 0 (Out.res o)))), avD (aO 4 (cellsOf (aO 0 (Out.res o)))), avD (aO 5 (cellsOf (aO 0 (Out.res o)))), avD (aO 6 (cellsOf (aO 0 (Out.res o)))), avD (aO 7 (cellsOf (aO 0 (Out.res o)))), D.sl aD.ks (eN 0 (Out.rws o))]) h)) (aE.inj (congrArg (fun o => List.map avD (sO 0 (Out.bxs o))) h))
def eA : ((List aA) × aE) → Out := fun r => .ret [.row 0] [⟨85, (aE.avs r.2)⟩] [⟨aA.ks, 26, 112, (List.map aA.enc r.1)⟩]
theorem w9 : ∀ y z, eA y = eA z → y = z := fun y z h => Prod.ext (map_inj aA.inj (congrArg (fun o => eN 0 (Out.rws o)) h)) (aE.inj (congrArg (fun o => List.map avD (sO 0 (Out.bxs o))) h))
def fB : (aB × aE) → Out := fun r => .ret [.agg [.d (.int .i64 r.1.ID), .d (.int .i64 r.1.State), .d (.str r.1.Message.Topic), .d (.str r.1.Message.Payload), .d (.int .i64 r.1.Message.Level), .d (.bool r.1.Message.Retain), .d (.int .i64 r.1.Message.Priority), .d (.int .i64 r.1.Message.Expires), .d (.str r.1.Message.From), .d (.int .i64 r.1.Message.Seq), .row 0]] [⟨85, (aE.avs r.2)⟩] [⟨aD.ks, 104, 32, (List.map aD.enc r.1.Message.Props)⟩]
theorem xG : ∀ y z, fB y = fB z → y = z := fun y z h => Prod.ext (aB.inj (congrArg (fun o => [avD (aO 0 (cellsOf (aO 0 (Out.res o)))), avD (aO 1 (cellsOf (aO 0 (Out.res o)))), avD (aO 2 (cellsOf (aO 0 (Out.res o)))), avD (aO 3 (cellsOf (aO 0 (Out.res o)))), avD (aO 4 (cellsOf (aO 0 (Out.res o)))), avD (aO 5 (cellsOf (aO 0 (Out.res o)))), avD (aO 6 (cellsOf (aO 0 (Out.res o)))), avD (aO 7 (cellsOf (aO 0 (Out.res o)))), avD (aO 8 (cellsOf (aO 0 (Out.res o)))), avD (aO 9 (cellsOf (aO 0 (Out.res o)))), D.sl aD.ks (eN 0 (Out.rws o))]) h)) (aE.inj (congrArg (fun o => List.map avD (sO 0 (Out.bxs o))) h))
def eE : ((List aB) × aE) → Out := fun r => .ret [.row 0] [⟨85, (aE.avs r.2)⟩] [⟨aB.ks, 79, 128, (List.map aB.enc r.1)⟩]
theorem xW : ∀ y z, eE y = eE z → y = z := fun y z h => Prod.ext (map_inj aB.inj (congrArg (fun o => eN 0 (Out.rws o)) h)) (aE.inj (congrArg (fun o => List.map avD (sO 0 (Out.bxs o))) h))
def gQ : ((List Int) × aE) → Out := fun r => .ret [.row 0] [⟨85, (aE.avs r.2)⟩] [⟨[.int .i64], 3, 8, (List.map (encI .i64) r.1)⟩]
theorem vL : ∀ y z, gQ y = gQ z → y = z := fun y z h => Prod.ext (map_inj (qU _) (congrArg (fun o => eN 0 (Out.rws o)) h)) (aE.inj (congrArg (fun o => List.map avD (sO 0 (Out.bxs o))) h))
def gU : (aC × Int) → Out := fun r => .ret [.agg [.d (.str r.1.Client), .d (.str r.1.User), .d (.bool r.1.Online), .d (.int .i64 r.1.Conn), .d (.int .i64 r.1.Expiry), .d (.int .i64 r.1.Until), .d (.int .i64 r.1.Dropped), .row 0, .row 1, .d (.int .i64 r.1.Out.Limit), .row 2, .row 3, .d (.int .i64 r.1.Out.Pool.Last), .row 4, .d (.bool r.1.Will.Set), .d (.int .i64 r.1.Will.Delay), .d (.str r.1.Will.Message.Topic), .d (.str r.1.Will.Message.Payload), .d (.int .i64 r.1.Will.Message.Level), .d (.bool r.1.Will.Message.Retain), .d (.int .i64 r.1.Will.Message.Priority), .d (.int .i64 r.1.Will.Message.Expires), .d (.str r.1.Will.Message.From), .d (.int .i64 r.1.Will.Message.Seq), .row 5], .d (.int .i64 r.2)] [] [⟨aG.ks, 73, 32, (List.map aG.enc r.1.Subs)⟩, ⟨aA.ks, 26, 112, (List.map aA.enc r.1.Queue)⟩, ⟨aB.ks, 79, 128, (List.map aB.enc r.1.Out.Items)⟩, ⟨[.int .i64], 3, 8, (List.map (encI .i64) r.1.Out.Pool.Used)⟩, ⟨[.int .i64], 3, 8, (List.map (encI .i64) r.1.In.IDs)⟩, ⟨aD.ks, 104, 32, (List.map aD.enc r.1.Will.Message.Props)⟩]
theorem aez : ∀ y z, gU y = gU z → y = z := fun y z h => Prod.ext (aC.inj (congrArg (fun o => [avD (aO 0 (cellsOf (aO 0 (Out.res o)))), avD (aO 1 (cellsOf (aO 0 (Out.res o)))), avD (aO 2 (cellsOf (aO 0 (Out.res o)))), avD (aO 3 (cellsOf (aO 0 (Out.res o)))), avD (aO 4 (cellsOf (aO 0 (Out.res o)))), avD (aO 5 (cellsOf (aO 0 (Out.res o)))), avD (aO 6 (cellsOf (aO 0 (Out.res o)))), D.sl aG.ks (eN 0 (Out.rws o)), D.sl aA.ks (eN 1 (Out.rws o)), avD (aO 9 (cellsOf (aO 0 (Out.res o)))), D.sl aB.ks (eN 2 (Out.rws o)), D.sl [.int .i64] (eN 3 (Out.rws o)), avD (aO 12 (cellsOf (aO 0 (Out.res o)))), D.sl [.int .i64] (eN 4 (Out.rws o)), avD (aO 14 (cellsOf (aO 0 (Out.res o)))), avD (aO 15 (cellsOf (aO 0 (Out.res o)))), avD (aO 16 (cellsOf (aO 0 (Out.res o)))), avD (aO 17 (cellsOf (aO 0 (Out.res o)))), avD (aO 18 (cellsOf (aO 0 (Out.res o)))), avD (aO 19 (cellsOf (aO 0 (Out.res o)))), avD (aO 20 (cellsOf (aO 0 (Out.res o)))), avD (aO 21 (cellsOf (aO 0 (Out.res o)))), avD (aO 22 (cellsOf (aO 0 (Out.res o)))), avD (aO 23 (cellsOf (aO 0 (Out.res o)))), D.sl aD.ks (eN 5 (Out.rws o))]) h)) (congrArg (fun o => aS (avD (aO 1 (Out.res o)))) h)
def iF : ((List aF)) → Out := fun r => .ret [.row 0] [] [⟨aF.ks, 32, 416, (List.map aF.enc r)⟩]
theorem adB : ∀ y z, iF y = iF z → y = z := fun y z h => map_inj aF.inj (congrArg (fun o => eN 0 (Out.rws o)) h)
def nZ : (aQ × Bool) → Out := fun r => .ret [.agg [.row 0, .d (.int .i64 r.1.Last)], .d (.bool r.2)] [] [⟨[.int .i64], 3, 8, (List.map (encI .i64) r.1.Used)⟩]
theorem aio : ∀ y z, nZ y = nZ z → y = z := fun y z h => Prod.ext (aQ.inj (congrArg (fun o => [D.sl [.int .i64] (eN 0 (Out.rws o)), avD (aO 1 (cellsOf (aO 0 (Out.res o))))]) h)) (congrArg (fun o => bZ (avD (aO 1 (Out.res o)))) h)
def cZ : ((List aB)) → Out := fun r => .ret [.row 0] [] [⟨aB.ks, 79, 128, (List.map aB.enc r)⟩]
theorem qJ : ∀ y z, cZ y = cZ z → y = z := fun y z h => map_inj aB.inj (congrArg (fun o => eN 0 (Out.rws o)) h)
def gM : (aH × (List aF) × Int) → Out := fun r => .ret [.agg [.d (.int .i64 r.1.Limit), .row 0, .row 1, .d (.int .i64 r.1.Pool.Last)], .row 2, .d (.int .i64 r.2.2)] [] [⟨aB.ks, 79, 128, (List.map aB.enc r.1.Items)⟩, ⟨[.int .i64], 3, 8, (List.map (encI .i64) r.1.Pool.Used)⟩, ⟨aF.ks, 32, 416, (List.map aF.enc r.2.1)⟩]
theorem adL : ∀ y z, gM y = gM z → y = z := fun y z h => Prod.ext (aH.inj (congrArg (fun o => [avD (aO 0 (cellsOf (aO 0 (Out.res o)))), D.sl aB.ks (eN 0 (Out.rws o)), D.sl [.int .i64] (eN 1 (Out.rws o)), avD (aO 3 (cellsOf (aO 0 (Out.res o))))]) h)) (Prod.ext (map_inj aF.inj (congrArg (fun o => eN 2 (Out.rws o)) h)) (congrArg (fun o => aS (avD (aO 2 (Out.res o)))) h))
def kF : (aC × (List aF) × Int) → Out := fun r => .ret [aC.av r.1, .row 0, .d (.int .i64 r.2.2)] [] [⟨aF.ks, 32, 416, (List.map aF.enc r.2.1)⟩]
theorem yM : ∀ y z, kF y = kF z → y = z := fun y z h => Prod.ext (aC.inj (congrArg (fun o => List.map avD (cellsOf (aO 0 (Out.res o)))) h)) (Prod.ext (map_inj aF.inj (congrArg (fun o => eN 0 (Out.rws o)) h)) (congrArg (fun o => aS (avD (aO 2 (Out.res o)))) h))
def good : FuncId → Out → Prop := fun f o => match f with | 49 => ∃ x, cM x = o | 14 => ∃ x, bR x = o | 15 => ∃ x, cR x = o | 4 => ∃ x, cW x = o | 50 => ∃ x, dS x = o | 51 => ∃ x, bM x = o | 16 => ∃ x, cW x = o | 54 => ∃ x, aI x = o | 17 => ∃ x, dB x = o | 75 => ∃ x, aJ x = o | 100 => ∃ x, aI x = o | 88 => ∃ x, aI x = o | 83 => ∃ x, aI x = o | 65 => ∃ x, aI x = o | 103 => ∃ x, aI x = o | 89 => ∃ x, aJ x = o | 68 => ∃ x, aJ x = o | 95 => ∃ x, aJ x = o | 112 => ∃ x, aI x = o | 105 => ∃ x, aI x = o | 106 => ∃ x, aI x = o | 96 => ∃ x, bX x = o | 97 => ∃ x, bM x = o | 76 => ∃ x, mC x = o | 77 => ∃ x, bR x = o | 73 => ∃ x, cR x = o | 64 => ∃ x, cX x = o | 55 => ∃ x, iS x = o | 19 => ∃ x, cQ x = o | 6 => ∃ x, cQ x = o | 21 => ∃ x, aI x = o | 56 => ∃ x, aJ x = o | 20 => ∃ x, bD x = o | 7 => ∃ x, dB x = o | 66 => ∃ x, aI x = o | 43 => ∃ x, aJ x = o | 102 => ∃ x, aI x = o | 109 => ∃ x, dF x = o | 98 => ∃ x, dF x = o | 117 => ∃ x, aJ x = o | 114 => ∃ x, aJ x = o | 110 => ∃ x, dA x = o | 99 => ∃ x, dA x = o | 123 => ∃ x, aJ x = o | 122 => ∃ x, aJ x = o | 115 => ∃ x, cB x = o | 111 => ∃ x, cB x = o | 101 => ∃ x, cB x = o | 86 => ∃ x, aI x = o | 87 => ∃ x, aI x = o | 84 => ∃ x, dA x = o | 85 => ∃ x, iA x = o | 67 => ∃ x, aJ x = o | 44 => ∃ x, aJ x = o | 69 => ∃ x, aJ x = o | 90 => ∃ x, aI x = o | 92 => ∃ x, jP x = o | 91 => ∃ x, cH x = o | 72 => ∃ x, aJ x = o | 70 => ∃ x, aJ x = o | 45 => ∃ x, aJ x = o | 46 => ∃ x, aJ x = o | 71 => ∃ x, aI x = o | 47 => ∃ x, aJ x = o | 12 => ∃ x, aJ x = o | 58 => ∃ x, aT x = o | 78 => ∃ x, o0 x = o | 57 => ∃ x, aT x = o | 22 => ∃ x, aT x = o | 23 => ∃ x, aT x = o | 31 => ∃ x, aJ x = o | 25 => ∃ x, aT x = o | 24 => ∃ x, aT x = o | 59 => ∃ x, aJ x = o | 27 => ∃ x, aT x = o | 26 => ∃ x, aT x = o | 29 => ∃ x, aT x = o | 28 => ∃ x, aT x = o | 30 => ∃ x, aT x = o | 8 => ∃ x, kB x = o | 53 => ∃ x, bR x = o | 52 => ∃ x, bD x = o | 18 => ∃ x, jX x = o | 5 => ∃ x, jN x = o | 79 => ∃ x, aJ x = o | 61 => ∃ x, fW x = o | 60 => ∃ x, jZ x = o | 32 => ∃ x, dZ x = o | 33 => ∃ x, bP x = o | 41 => ∃ x, dY x = o | 35 => ∃ x, gF x = o | 34 => ∃ x, eT x = o | 80 => ∃ x, fS x = o | 81 => ∃ x, gJ x = o | 82 => ∃ x, fT x = o | 62 => ∃ x, fF x = o | 37 => ∃ x, cV x = o | 36 => ∃ x, eA x = o | 39 => ∃ x, fB x = o | 38 => ∃ x, eE x = o | 40 => ∃ x, gQ x = o | 9 => ∃ x, gU x = o | 63 => ∃ x, cX x = o | 42 => ∃ x, iF x = o | 10 => ∃ x, cQ x = o | 11 => ∃ x, aI x = o | 104 => ∃ x, bM x = o | 93 => ∃ x, nZ x = o | 94 => ∃ x, cZ x = o | 74 => ∃ x, cR x = o | 48 => ∃ x, gM x = o | 13 => ∃ x, kF x = o | 3 => ∃ x, aI x = o | _ => False
abbrev cT {R : Type} (g : FuncId) (out : R → Out) : Gm R := afo SE good g out
noncomputable abbrev gG : Fun := tV SE good
end Te
end PX
