import Derived.Test.YthjloglncbnhfaaGreatDoorMod
import Derived.Test.YthjloglncbnhfaaGreatDoorProg
set_option linter.unusedVariables false
set_option linter.unusedSimpArgs false
noncomputable section
namespace PX
open Go
open Md
namespace Te
noncomputable def tyL : List (Nat × TI) := [(3, ⟨[.int .i64], false, 8, [], 0⟩),
 (4, ⟨[.bool], false, 1, [], 0⟩),
 (5, ⟨[.int .u8], false, 1, [], 0⟩),
 (9, ⟨[.str], false, 16, [], 0⟩),
 (21, ⟨[.int .i32], false, 4, [], 0⟩),
 (22, ⟨[.ptr], false, 8, [], 83⟩),
 (23, ⟨[.int .i64], false, 8, [], 0⟩),
 (26, ⟨[.sl [.int .i64, .int .i64, .str, .str, .int .i64, .bool, .int .i64, .int .i64, .str, .int .i64, .sl [.str, .str]]], false, 24, [], 139⟩),
 (27, ⟨[.sl [.int .i64]], false, 24, [], 3⟩),
 (29, ⟨[.sl [.int .i64], .int .i64], true, 32, [(0, 27), (1, 3)], 0⟩),
 (31, ⟨[.int .i64, .sl [.int .i64, .int .i64, .str, .str, .int .i64, .bool, .int .i64, .int .i64, .str, .int .i64, .sl [.str, .str]], .sl [.int .i64], .int .i64], true, 64, [(0, 3), (1, 26), (2, 29)], 0⟩),
 (33, ⟨[.sl [.int .i64]], true, 24, [(0, 27)], 0⟩),
 (34, ⟨[.sl [.str, .str, .int .i64, .bool, .int .i64, .int .i64, .str, .int .i64, .sl [.str, .str]]], false, 24, [], 54⟩),
 (36, ⟨[.str, .int .i64, .int .i64, .int .i64, .sl [.int .i64, .int .i64, .str, .str, .int .i64, .bool, .int .i64, .int .i64, .str, .int .i64, .sl [.str, .str]], .sl [.int .i64], .int .i64, .sl [.int .i64], .sl [.str, .str, .int .i64, .bool, .int .i64, .int .i64, .str, .int .i64, .sl [.str, .str]], .int .i64, .int .i64], true, 160, [(0, 9), (1, 3), (2, 3), (3, 31), (7, 33), (8, 34), (9, 3), (10, 3)], 0⟩),
 (43, ⟨[.sl [.int .i64, .int .i64, .bool, .str, .str, .int .i64, .bool, .int .i64, .int .i64, .str, .int .i64, .sl [.str, .str], .str, .str, .bool, .int .i64, .int .i64, .int .i64, .bool, .int .i64, .str, .str, .int .i64, .bool, .int .i64, .int .i64, .str, .int .i64, .sl [.str, .str], .bool, .int .i64, .sl [.str, .int .i64, .bool], .sl [.str], .sl [.int .i64]]], false, 24, [], 67⟩),
 (52, ⟨[.sl [.str, .str]], false, 24, [], 92⟩),
 (54, ⟨[.str, .str, .int .i64, .bool, .int .i64, .int .i64, .str, .int .i64, .sl [.str, .str]], true, 112, [(0, 9), (1, 9), (2, 3), (3, 4), (4, 3), (5, 3), (6, 9), (7, 3), (8, 52)], 0⟩),
 (61, ⟨[.bool, .int .i64, .str, .str, .int .i64, .bool, .int .i64, .int .i64, .str, .int .i64, .sl [.str, .str]], true, 128, [(0, 4), (1, 3), (2, 54)], 0⟩),
 (64, ⟨[.sl [.str, .int .i64, .bool]], false, 24, [], 75⟩),
 (65, ⟨[.sl [.str]], false, 24, [], 9⟩),
 (67, ⟨[.int .i64, .int .i64, .bool, .str, .str, .int .i64, .bool, .int .i64, .int .i64, .str, .int .i64, .sl [.str, .str], .str, .str, .bool, .int .i64, .int .i64, .int .i64, .bool, .int .i64, .str, .str, .int .i64, .bool, .int .i64, .int .i64, .str, .int .i64, .sl [.str, .str], .bool, .int .i64, .sl [.str, .int .i64, .bool], .sl [.str], .sl [.int .i64]], true, 416, [(0, 3), (1, 3), (2, 4), (3, 54), (12, 9), (13, 9), (14, 4), (15, 3), (16, 3), (17, 3), (18, 61), (29, 4), (30, 3), (31, 64), (32, 65), (33, 27)], 0⟩),
 (75, ⟨[.str, .int .i64, .bool], true, 32, [(0, 9), (1, 3), (2, 4)], 0⟩),
 (83, ⟨[.str, .int .i64, .int .i64, .sl [.int .i64, .int .i64, .str, .str, .int .i64, .bool, .int .i64, .int .i64, .str, .int .i64, .sl [.str, .str]], .sl [.int .i64], .int .i64, .sl [.int .i64], .sl [.str, .str, .int .i64, .bool, .int .i64, .int .i64, .str, .int .i64, .sl [.str, .str]], .int .i64, .int .i64], true, 152, [(0, 9), (1, 3), (2, 31), (6, 33), (7, 34), (8, 3), (9, 3)], 0⟩),
 (92, ⟨[.str, .str], true, 32, [(0, 9), (1, 9)], 0⟩),
 (96, ⟨[.fn], false, 8, [], 0⟩),
 (139, ⟨[.int .i64, .int .i64, .str, .str, .int .i64, .bool, .int .i64, .int .i64, .str, .int .i64, .sl [.str, .str]], true, 128, [(0, 3), (1, 3), (2, 54)], 0⟩),
 (147, ⟨[.int .i64, .int .i64, .int .i64, .int .i64, .int .i64, .int .i64, .int .i64, .bool, .bool, .bool, .bool, .str, .str], true, 96, [(0, 3), (1, 3), (2, 3), (3, 3), (4, 3), (5, 3), (6, 3), (7, 4), (8, 4), (9, 4), (10, 4), (11, 9), (12, 9)], 0⟩),
 (164, ⟨[.int .u64], false, 8, [], 0⟩),
 (177, ⟨[.fn], false, 8, [], 0⟩)]
noncomputable def fnL : List (Nat × Func) := [(26, Go.Proofs.Tryz.f26), (27, Go.Proofs.Tryz.f27), (7, Go.Proofs.Tryz.f7), (53, Go.Proofs.Tryz.f53), (54, Go.Proofs.Tryz.f54), (28, Go.Proofs.Tryz.f28), (29, Go.Proofs.Tryz.f29), (8, Go.Proofs.Tryz.f8), (10, Go.Proofs.Tryz.f10), (11, Go.Proofs.Tryz.f11), (55, Go.Proofs.Tryz.f55), (30, Go.Proofs.Tryz.f30), (68, Go.Proofs.Tryz.f68), (70, Go.Proofs.Tryz.f70), (106, Go.Proofs.Tryz.f106), (107, Go.Proofs.Tryz.f107), (108, Go.Proofs.Tryz.f108), (109, Go.Proofs.Tryz.f109), (110, Go.Proofs.Tryz.f110), (69, Go.Proofs.Tryz.f69), (95, Go.Proofs.Tryz.f95), (56, Go.Proofs.Tryz.f56), (57, Go.Proofs.Tryz.f57), (96, Go.Proofs.Tryz.f96), (58, Go.Proofs.Tryz.f58), (31, Go.Proofs.Tryz.f31), (71, Go.Proofs.Tryz.f71), (72, Go.Proofs.Tryz.f72), (74, Go.Proofs.Tryz.f74), (73, Go.Proofs.Tryz.f73), (111, Go.Proofs.Tryz.f111), (160, Go.Proofs.Tryz.f160), (171, Go.Proofs.Tryz.f171), (157, Go.Proofs.Tryz.f157), (176, Go.Proofs.Tryz.f176), (174, Go.Proofs.Tryz.f174), (172, Go.Proofs.Tryz.f172), (158, Go.Proofs.Tryz.f158), (182, Go.Proofs.Tryz.f182), (181, Go.Proofs.Tryz.f181), (175, Go.Proofs.Tryz.f175), (173, Go.Proofs.Tryz.f173), (159, Go.Proofs.Tryz.f159), (144, Go.Proofs.Tryz.f144), (145, Go.Proofs.Tryz.f145), (143, Go.Proofs.Tryz.f143), (112, Go.Proofs.Tryz.f112), (75, Go.Proofs.Tryz.f75), (76, Go.Proofs.Tryz.f76), (77, Go.Proofs.Tryz.f77), (38, Go.Proofs.Tryz.f38), (20, Go.Proofs.Tryz.f20), (78, Go.Proofs.Tryz.f78), (39, Go.Proofs.Tryz.f39), (40, Go.Proofs.Tryz.f40), (146, Go.Proofs.Tryz.f146), (100, Go.Proofs.Tryz.f100), (101, Go.Proofs.Tryz.f101), (113, Go.Proofs.Tryz.f113), (97, Go.Proofs.Tryz.f97), (138, Go.Proofs.Tryz.f138), (155, Go.Proofs.Tryz.f155), (139, Go.Proofs.Tryz.f139), (140, Go.Proofs.Tryz.f140), (102, Go.Proofs.Tryz.f102), (62, Go.Proofs.Tryz.f62), (104, Go.Proofs.Tryz.f104), (98, Go.Proofs.Tryz.f98), (99, Go.Proofs.Tryz.f99), (59, Go.Proofs.Tryz.f59), (33, Go.Proofs.Tryz.f33), (79, Go.Proofs.Tryz.f79), (61, Go.Proofs.Tryz.f61), (63, Go.Proofs.Tryz.f63), (64, Go.Proofs.Tryz.f64), (35, Go.Proofs.Tryz.f35), (80, Go.Proofs.Tryz.f80), (103, Go.Proofs.Tryz.f103), (60, Go.Proofs.Tryz.f60), (34, Go.Proofs.Tryz.f34), (81, Go.Proofs.Tryz.f81), (162, Go.Proofs.Tryz.f162), (161, Go.Proofs.Tryz.f161), (147, Go.Proofs.Tryz.f147), (163, Go.Proofs.Tryz.f163), (164, Go.Proofs.Tryz.f164), (148, Go.Proofs.Tryz.f148), (114, Go.Proofs.Tryz.f114), (82, Go.Proofs.Tryz.f82), (83, Go.Proofs.Tryz.f83), (84, Go.Proofs.Tryz.f84), (21, Go.Proofs.Tryz.f21), (32, Go.Proofs.Tryz.f32), (13, Go.Proofs.Tryz.f13), (9, Go.Proofs.Tryz.f9), (3, Go.Proofs.Tryz.f3)]
noncomputable def tmL : List (Nat × (List Sh × List (TypeId × List Sh))) := [(26, ([.bool], [])),
 (27, ([.agg [.int .i64, .row 0 aC.ks 139 128, .row 1 [.int .i64] 3 8, .int .i64]], [])),
 (7, ([.ptr 0 0, .int .i64], [(83, client_Client.shs)])),
 (53, ([.bool], [])),
 (54, ([.bool], [])),
 (28, ([.bool], [])),
 (29, ([.agg [.int .i64, .row 0 aC.ks 139 128, .row 1 [.int .i64] 3 8, .int .i64]], [])),
 (8, ([.agg [.str, .int .i64, .int .i64, .int .i64, .row 0 aC.ks 139 128, .row 1 [.int .i64] 3 8, .int .i64, .row 2 [.int .i64] 3 8, .row 3 aB.ks 54 112, .int .i64, .int .i64], .int .i64], [])),
 (10, ([.bool], [(83, client_Client.shs)])),
 (11, ([.int .i64], [(83, client_Client.shs)])),
 (55, ([.row 0 aD.ks 92 32], [])),
 (30, ([.agg [.str, .str, .int .i64, .bool, .int .i64, .int .i64, .str, .int .i64, .row 0 aD.ks 92 32]], [])),
 (68, ([.bool], [])),
 (70, ([aA.sh], [])),
 (106, ([bU.sh], [])),
 (107, ([.bool], [])),
 (108, ([.bool], [])),
 (109, ([.bool], [])),
 (110, ([.bool], [])),
 (69, ([.bool], [])),
 (95, ([.bool], [])),
 (56, ([.bool], [])),
 (57, ([.bool], [])),
 (96, ([.bool], [])),
 (58, ([.int .i64], [])),
 (31, ([.int .i64], [])),
 (71, ([.int .i64], [])),
 (72, ([.bool], [])),
 (74, ([.int .i64], [])),
 (73, ([.int .i64], [])),
 (111, ([.int .i64], [])),
 (160, ([.bool], [])),
 (171, ([.str, .bool], [])),
 (157, ([.str, .bool], [])),
 (176, ([.int .i64], [])),
 (174, ([.int .i64], [])),
 (172, ([.str, .str, .bool], [])),
 (158, ([.str, .str, .bool], [])),
 (182, ([.int .i64], [])),
 (181, ([.int .i64], [])),
 (175, ([.sl [.str]], [])),
 (173, ([.sl [.str]], [])),
 (159, ([.sl [.str]], [])),
 (144, ([.bool], [])),
 (145, ([.bool], [])),
 (143, ([.str, .str, .bool], [])),
 (112, ([.bool, .bool], [])),
 (75, ([.int .i64], [])),
 (76, ([.int .i64], [])),
 (77, ([.int .i64], [])),
 (38, ([.int .i64], [])),
 (20, ([.row 0 aA.ks 67 416, .int .i64], [(83, client_Client.shs)])),
 (78, ([.bool], [])),
 (39, ([.bool], [])),
 (40, ([.fn 79 [.ptr 0 0] []], [(83, client_Client.shs)])),
 (146, ([.agg [.int .i64, .int .i64, .bool, .str, .str, .int .i64, .bool, .int .i64, .int .i64, .str, .int .i64, .row 0 aD.ks 92 32, .str, .str, .bool, .int .i64, .int .i64, .int .i64, .bool, .int .i64, .str, .str, .int .i64, .bool, .int .i64, .int .i64, .str, .int .i64, .row 1 aD.ks 92 32, .bool, .int .i64, .row 2 aJ.ks 75 32, .row 3 [.str] 9 16, .row 4 [.int .i64] 3 8]], [])),
 (100, ([.agg [.str, .str, .int .i64, .bool, .int .i64, .int .i64, .str, .int .i64, .row 0 aD.ks 92 32]], [])),
 (101, ([.agg [.int .i64, .int .i64, .bool, .str, .str, .int .i64, .bool, .int .i64, .int .i64, .str, .int .i64, .row 0 aD.ks 92 32, .str, .str, .bool, .int .i64, .int .i64, .int .i64, .bool, .int .i64, .str, .str, .int .i64, .bool, .int .i64, .int .i64, .str, .int .i64, .row 1 aD.ks 92 32, .bool, .int .i64, .row 2 aJ.ks 75 32, .row 3 [.str] 9 16, .row 4 [.int .i64] 3 8]], [])),
 (113, ([.row 0 aA.ks 67 416], [])),
 (97, ([.int .i64], [])),
 (138, ([.int .i64], [])),
 (155, ([.bool], [])),
 (139, ([.bool], [])),
 (140, ([.bool], [])),
 (102, ([.int .i64, .bool], [])),
 (62, ([.row 0 [.int .i64] 3 8], [])),
 (104, ([.row 0 [.int .i64] 3 8], [])),
 (98, ([.int .i64, .agg [.row 0 [.int .i64] 3 8, .int .i64], .int .i64], [])),
 (99, ([.agg [.int .i64, .row 0 aC.ks 139 128, .row 1 [.int .i64] 3 8, .int .i64]], [])),
 (59, ([.agg [.int .i64, .row 0 aC.ks 139 128, .row 1 [.int .i64] 3 8, .int .i64], .agg [.int .i64, .int .i64, .bool, .str, .str, .int .i64, .bool, .int .i64, .int .i64, .str, .int .i64, .row 2 aD.ks 92 32, .str, .str, .bool, .int .i64, .int .i64, .int .i64, .bool, .int .i64, .str, .str, .int .i64, .bool, .int .i64, .int .i64, .str, .int .i64, .row 3 aD.ks 92 32, .bool, .int .i64, .row 4 aJ.ks 75 32, .row 5 [.str] 9 16, .row 6 [.int .i64] 3 8], .int .i64], [])),
 (33, ([.row 0 aA.ks 67 416], [(83, client_Client.shs)])),
 (79, ([.row 0 aA.ks 67 416, .row 1 aB.ks 54 112, .int .i64], [(83, client_Client.shs)])),
 (61, ([.bool], [])),
 (63, ([.row 0 [.int .i64] 3 8], [])),
 (64, ([.agg [.int .i64, .int .i64, .bool, .str, .str, .int .i64, .bool, .int .i64, .int .i64, .str, .int .i64, .row 0 aD.ks 92 32, .str, .str, .bool, .int .i64, .int .i64, .int .i64, .bool, .int .i64, .str, .str, .int .i64, .bool, .int .i64, .int .i64, .str, .int .i64, .row 1 aD.ks 92 32, .bool, .int .i64, .row 2 aJ.ks 75 32, .row 3 [.str] 9 16, .row 4 [.int .i64] 3 8], .bool], [])),
 (35, ([.agg [.row 0 [.int .i64] 3 8], .bool, .row 1 aA.ks 67 416, .int .i64], [])),
 (80, ([.row 0 aA.ks 67 416, .row 1 aB.ks 54 112, .int .i64], [(83, client_Client.shs)])),
 (103, ([.row 0 [.int .i64] 3 8], [])),
 (60, ([.row 0 [.int .i64] 3 8], [])),
 (34, ([.agg [.row 0 [.int .i64] 3 8], .agg [.int .i64, .int .i64, .bool, .str, .str, .int .i64, .bool, .int .i64, .int .i64, .str, .int .i64, .row 1 aD.ks 92 32, .str, .str, .bool, .int .i64, .int .i64, .int .i64, .bool, .int .i64, .str, .str, .int .i64, .bool, .int .i64, .int .i64, .str, .int .i64, .row 2 aD.ks 92 32, .bool, .int .i64, .row 3 aJ.ks 75 32, .row 4 [.str] 9 16, .row 5 [.int .i64] 3 8], .int .i64], [])),
 (81, ([.row 0 aA.ks 67 416, .row 1 aB.ks 54 112, .int .i64], [(83, client_Client.shs)])),
 (162, ([.bool], [(3, [.int .i64])])),
 (161, ([.int .i64], [(3, [.int .i64])])),
 (147, ([.int .i64], [])),
 (163, ([.agg [.row 0 [.int .i64] 3 8, .int .i64], .bool], [])),
 (164, ([.row 0 aC.ks 139 128], [])),
 (148, ([.agg [.int .i64, .row 0 aC.ks 139 128, .row 1 [.int .i64] 3 8, .int .i64]], [])),
 (114, ([.agg [.int .i64, .row 0 aC.ks 139 128, .row 1 [.int .i64] 3 8, .int .i64], .row 2 aA.ks 67 416, .int .i64], [])),
 (82, ([.row 0 aA.ks 67 416, .row 1 aB.ks 54 112, .int .i64], [(83, client_Client.shs)])),
 (83, ([.row 0 aA.ks 67 416, .row 1 aB.ks 54 112, .int .i64], [(83, client_Client.shs)])),
 (84, ([.row 0 aA.ks 67 416, .row 1 aB.ks 54 112, .int .i64], [(83, client_Client.shs)])),
 (21, ([.row 0 aA.ks 67 416, .row 1 aB.ks 54 112, .int .i64], [(83, client_Client.shs)])),
 (32, ([.row 0 aB.ks 54 112], [])),
 (13, ([.row 0 aA.ks 67 416, .int .i64], [(83, client_Client.shs)])),
 (9, ([.bool], [])),
 (3, ([.bool], []))]
noncomputable def mvL : List (Nat × Bool) := [(104, true), (33, true), (103, true), (164, true)]
noncomputable def naL : List (Nat × List (List (Option (List CK × TypeId × Nat)))) := [(104, [[some ([.int .i64], 3, 8)], [], [some ([.int .i64], 3, 8)]]), (33, [[], [some (aA.ks, 67, 416)]]), (103, [[some ([.int .i64], 3, 8)], [], []]), (164, [[some (aC.ks, 139, 128)], [], []])]
noncomputable def hlL : List (Nat × List (Nat × Hint)) := [(26, [(4, ⟨[(15, .it 4000)], [], []⟩)]),
 (28, [(4, ⟨[(0, .str), (3, .int .i64)], [], []⟩)]),
 (107, [(4, ⟨[(3, .ptr 1000000000 0), (71, .sl aD.ks), (72, .int .i64), (73, .int .i64)], [(54, aB.shs)], []⟩)]),
 (108, [(4, ⟨[(1, .sl aJ.ks), (12, .sl aJ.ks), (13, .int .i64), (14, .int .i64)], [], []⟩)]),
 (109, [(4, ⟨[(1, .sl [.str]), (12, .sl [.str]), (13, .int .i64), (14, .int .i64)], [], []⟩)]),
 (110, [(4, ⟨[(1, .sl [.int .i64]), (12, .sl [.int .i64]), (13, .int .i64), (14, .int .i64)], [], []⟩)]),
 (95, [(5, ⟨[(3, .int .i64), (15, .it 4000)], [], []⟩)]),
 (56, [(4, ⟨[(9, .it 4000)], [], []⟩)]),
 (96, [(4, ⟨[(0, .str), (3, .int .i64)], [], []⟩)]),
 (58, [(4, ⟨[(0, .sl aD.ks), (8, .sl aD.ks), (9, .int .i64), (10, .int .i64)], [], []⟩)]),
 (181, [(6, ⟨[(0, .str), (1, .str), (5, .int .i64)], [], []⟩)]),
 (175, [(11, ⟨[(0, .str), (1, .str), (2, .int .i64), (3, .int .i64), (9, .row 3009 [.str] 9 16), (10, .int .i64)], [], []⟩)]),
 (144, [(6, ⟨[(3, .sl [.str]), (4, .bool), (15, .sl [.str]), (16, .int .i64), (17, .int .i64)], [], []⟩), (9, ⟨[(3, .sl [.str]), (4, .bool), (5, .int .i64), (6, .str), (15, .sl [.str]), (16, .int .i64), (17, .int .i64), (23, .it 4000)], [], []⟩)]),
 (75, [(5, ⟨[(18, .sl aJ.ks), (19, .int .i64), (20, .int .i64)], [], []⟩)]),
 (76, [(5, ⟨[(16, .sl [.int .i64]), (17, .int .i64), (18, .int .i64)], [], []⟩)]),
 (77, [(5, ⟨[(18, .sl [.str]), (19, .int .i64), (20, .int .i64)], [], []⟩)]),
 (113, [(3, ⟨[(1, .ptr 1000000000 0), (3, .row 3003 aA.ks 67 416), (9, .int .i64), (10, .int .i64)], [(31, aF.shs)], []⟩)]),
 (102, [(3, ⟨[(0, .sl [.int .i64]), (1, .int .i64), (6, .int .i64), (7, .int .i64), (8, .int .i64)], [], []⟩)]),
 (98, [(5, ⟨[(1, .ptr 1000000000 0), (3, .ptr 1000000001 0), (5, .int .i64), (18, .int .i64), (19, .int .i64)], [(29, aL.shs), (29, aL.shs)], []⟩)]),
 (99, [(3, ⟨[(1, .ptr 1000000000 0), (2, .ptr 1000000001 0), (3, .row 3003 aC.ks 139 128), (12, .sl aC.ks), (13, .int .i64), (14, .int .i64)], [(31, aF.shs), (31, aF.shs)], []⟩)]),
 (33, [(1, ⟨[(0, .ptr 2000000000 0), (1, .row 3001 aA.ks 67 416)], [], [(83, client_Client.shs)]⟩)]),
 (79, [(9, ⟨[(0, .ptr 2000000000 0), (7, .row 3007 aB.ks 54 112), (32, .sl aC.ks), (33, .int .i64), (34, .int .i64)], [], [(83, client_Client.shs)]⟩)]),
 (161, [(2, ⟨[(0, .sl aC.ks), (1, .fn 162 [] [.ptr 2000000000 0]), (7, .int .i64), (8, .int .i64)], [], [(3, [.int .i64])]⟩)])]
noncomputable def hrL : List (Nat × List (Nat × Hint)) := [(26, [(3, ⟨[(0, .str)], [], []⟩), (7, ⟨[(3, .int .i64), (4, .int .i32), (5, .bool), (15, .it 4000)], [], []⟩)]),
 (28, [(3, ⟨[(0, .str)], [], []⟩)]),
 (107, [(3, ⟨[(2, .ptr 1000000000 0), (3, .ptr 1000000001 0)], [(54, aB.shs), (54, aB.shs)], []⟩)]),
 (95, [(3, ⟨[(0, .str)], [], []⟩)]),
 (96, [(3, ⟨[(0, .str)], [], []⟩)]),
 (175, [(7, ⟨[(0, .str), (1, .str), (2, .int .i64), (3, .int .i64)], [], []⟩), (17, ⟨[(0, .str), (9, .row 3009 [.str] 9 16), (10, .int .i64)], [], []⟩)]),
 (33, [(2, ⟨[(0, .ptr 2000000000 0), (1, .row 3001 aA.ks 67 416), (15, .ptr 2000000000 0), (16, .ptr 2000000000 0), (17, .ptr 2000000000 7), (18, .sl aB.ks), (19, .int .i64), (20, .bool)], [], [(83, client_Client.shs)]⟩), (9, ⟨[(0, .ptr 2000000000 0), (1, .row 3001 aA.ks 67 416), (15, .ptr 2000000000 0), (16, .ptr 2000000000 0), (17, .ptr 2000000000 7), (18, .sl aB.ks), (19, .int .i64), (20, .bool)], [], [(83, client_Client.shs)]⟩)]),
 (35, [(7, ⟨[(2, .ptr 1000000000 0), (3, .ptr 1000000001 0), (4, .ptr 1000000002 0), (9, .bool)], [(33, aI.shs), (67, aA.shs), (33, aI.shs)], []⟩), (9, ⟨[(2, .ptr 1000000000 0), (3, .ptr 1000000001 0), (4, .ptr 1000000002 0), (9, .bool)], [(33, aI.shs), (67, aA.shs), (33, aI.shs)], []⟩), (12, ⟨[(3, .ptr 1000000000 0), (4, .ptr 1000000001 0), (9, .bool), (10, .ptr 1000000002 0)], [(67, aA.shs), (33, aI.shs), (33, [.row 50200 [.int .i64] 3 8])], []⟩)]),
 (34, [(5, ⟨[(2, .ptr 1000000000 0), (3, .ptr 1000000001 0), (4, .ptr 1000000002 0), (5, .ptr 1000000003 0)], [(33, aI.shs), (67, aA.shs), (33, aI.shs), (67, aA.shs)], []⟩)]),
 (114, [(5, ⟨[(2, .ptr 1000000000 0), (3, .ptr 1000000001 0), (4, .ptr 1000000002 0), (7, .int .i64), (8, .ptr 1000000003 0)], [(31, aF.shs), (67, aA.shs), (31, aF.shs), (139, aC.shs)], []⟩)]),
 (21, [(7, ⟨[(0, .ptr 2000000000 0), (3, .ptr 1000000000 0), (8, .bool)], [(67, aA.shs)], [(83, client_Client.shs)]⟩), (9, ⟨[(0, .ptr 2000000000 0), (3, .ptr 1000000000 0)], [(67, aA.shs)], [(83, client_Client.shs)]⟩)]),
 (9, [(4, ⟨[(1, .ptr 1000000000 0)], [(83, client_Client.shs)], []⟩), (7, ⟨[(1, .ptr 1000000000 0)], [(83, client_Client.shs)], []⟩), (10, ⟨[(1, .ptr 1000000000 0)], [(83, client_Client.shs)], []⟩), (15, ⟨[(1, .ptr 1000000000 0)], [(83, client_Client.shs)], []⟩)])]
noncomputable def eqL : List (Nat × List CK) := [(75, [.str, .int .i64, .bool]), (92, [.str, .str]), (147, [.int .i64, .int .i64, .int .i64, .int .i64, .int .i64, .int .i64, .int .i64, .bool, .bool, .bool, .bool, .str, .str])]
noncomputable def prL : List (Nat × Prim) := [(183, .indexByte), (187, .countByte)]
noncomputable def lbL : List (Nat × LibK) := [(104, .insert [.int .i64] 3 8), (103, .spec (al4 [.int .i64] 3 8)), (164, .spec (al4 aC.ks 139 128))]
noncomputable def vrL : List (Nat × List (Nat × (List Sh × List (TypeId × List Sh)))) := [(7, [(0, ([.nilp, .int .i64], []))]), (40, [(80, ([.fn 79 [.ptr 0 0] []], [(83, client_Client.shs)])), (81, ([.fn 80 [.ptr 0 0] []], [(83, client_Client.shs)])), (82, ([.fn 81 [.ptr 0 0] []], [(83, client_Client.shs)])), (83, ([.fn 82 [.ptr 0 0] []], [(83, client_Client.shs)])), (84, ([.fn 83 [.ptr 0 0] []], [(83, client_Client.shs)])), (85, ([.fn 84 [.ptr 0 0] []], [(83, client_Client.shs)]))])]
noncomputable def pvL : List (Nat × Sh) := []
noncomputable def SE : Env := { fn := assoc fnL, ty := assoc tyL, tm := assoc tmL, mv := fun f => match assoc mvL f with | some b => b | none => false, eqt := assoc eqL, pv := assoc pvL, vr := fun f => match assoc vrL f with | some l => l | none => [], hl := fun f r => match assoc hlL f with | some l => assoc l r | none => none, hr := fun f r => match assoc hrL f with | some l => assoc l r | none => none, prim := assoc prL, lib := assoc lbL, na := fun f => match assoc naL f with | some l => l | none => [] }
def aE : (Bool) → Out := fun r => .ret [.d (.bool r)] [] []
theorem aQ : ∀ y z, aE y = aE z → y = z := fun y z h => congrArg (fun o => bB (avD (aO 0 (Out.res o)))) h
def bI : (aF) → Out := fun r => .ret [.agg [.d (.int .i64 r.Limit), .row 0, .row 1, .d (.int .i64 r.Pool.Last)]] [] [⟨aC.ks, 139, 128, (List.map aC.enc r.Items)⟩, ⟨[.int .i64], 3, 8, (List.map (encI .i64) r.Pool.Used)⟩]
theorem hZ : ∀ y z, bI y = bI z → y = z := fun y z h => aF.inj (congrArg (fun o => [avD (aO 0 (cellsOf (aO 0 (Out.res o)))), D.sl aC.ks (dG 0 (Out.rws o)), D.sl [.int .i64] (dG 1 (Out.rws o)), avD (aO 3 (cellsOf (aO 0 (Out.res o))))]) h)
def aao : (Int) → Out := fun r => .ret [.nilp, .d (.int .i64 r)] [] []
theorem ak1 : ∀ y z, aao y = aao z → y = z := fun y z h => congrArg (fun o => aM (avD (aO 1 (Out.res o)))) h
def aaL : (Int × client_Client) → Out := fun r => .ret [.ptr 0 0, .d (.int .i64 r.1)] [⟨83, (client_Client.avs r.2)⟩] []
theorem alu : ∀ y z, aaL y = aaL z → y = z := fun y z h => Prod.ext (congrArg (fun o => aM (avD (aO 1 (Out.res o)))) h) (client_Client.inj (congrArg (fun o => List.map avD (v8 0 (Out.bxs o))) h))
def lI : (((Int) ⊕ (Int × client_Client))) → Out := (abz aao aaL)
theorem xA : ∀ y z, lI y = lI z → y = z := (w5 (k := (some 0)) ak1 alu (fun _ => rfl) (fun _ => (by decide : ¬ (none : Option Nat) = (some 0))))
def dQ : (brokerref51_State × Int) → Out := fun r => .ret [.agg [.d (.str r.1.Name), .d (.int .i64 r.1.Limit), .d (.int .i64 r.1.Phase), .d (.int .i64 r.1.Out.Limit), .row 0, .row 1, .d (.int .i64 r.1.Out.Pool.Last), .row 2, .row 3, .d (.int .i64 r.1.Seq), .d (.int .i64 r.1.Last)], .d (.int .i64 r.2)] [] [⟨aC.ks, 139, 128, (List.map aC.enc r.1.Out.Items)⟩, ⟨[.int .i64], 3, 8, (List.map (encI .i64) r.1.Out.Pool.Used)⟩, ⟨[.int .i64], 3, 8, (List.map (encI .i64) r.1.In.IDs)⟩, ⟨aB.ks, 54, 112, (List.map aB.enc r.1.Waiting)⟩]
theorem aaW : ∀ y z, dQ y = dQ z → y = z := fun y z h => Prod.ext (brokerref51_State.inj (congrArg (fun o => [avD (aO 0 (cellsOf (aO 0 (Out.res o)))), avD (aO 1 (cellsOf (aO 0 (Out.res o)))), avD (aO 2 (cellsOf (aO 0 (Out.res o)))), avD (aO 3 (cellsOf (aO 0 (Out.res o)))), D.sl aC.ks (dG 0 (Out.rws o)), D.sl [.int .i64] (dG 1 (Out.rws o)), avD (aO 6 (cellsOf (aO 0 (Out.res o)))), D.sl [.int .i64] (dG 2 (Out.rws o)), D.sl aB.ks (dG 3 (Out.rws o)), avD (aO 9 (cellsOf (aO 0 (Out.res o)))), avD (aO 10 (cellsOf (aO 0 (Out.res o))))]) h)) (congrArg (fun o => aM (avD (aO 1 (Out.res o)))) h)
def dV : (Bool × client_Client) → Out := fun r => .ret [.d (.bool r.1)] [⟨83, (client_Client.avs r.2)⟩] []
theorem j2 : ∀ y z, dV y = dV z → y = z := fun y z h => Prod.ext (congrArg (fun o => bB (avD (aO 0 (Out.res o)))) h) (client_Client.inj (congrArg (fun o => List.map avD (v8 0 (Out.bxs o))) h))
def cW : (Int × client_Client) → Out := fun r => .ret [.d (.int .i64 r.1)] [⟨83, (client_Client.avs r.2)⟩] []
theorem gL : ∀ y z, cW y = cW z → y = z := fun y z h => Prod.ext (congrArg (fun o => aM (avD (aO 0 (Out.res o)))) h) (client_Client.inj (congrArg (fun o => List.map avD (v8 0 (Out.bxs o))) h))
def cL : ((List aD)) → Out := fun r => .ret [.row 0] [] [⟨aD.ks, 92, 32, (List.map aD.enc r)⟩]
theorem n3 : ∀ y z, cL y = cL z → y = z := fun y z h => map_inj aD.inj (congrArg (fun o => dG 0 (Out.rws o)) h)
def dA : (aB) → Out := fun r => .ret [.agg [.d (.str r.Topic), .d (.str r.Payload), .d (.int .i64 r.Level), .d (.bool r.Retain), .d (.int .i64 r.Priority), .d (.int .i64 r.Expires), .d (.str r.From), .d (.int .i64 r.Seq), .row 0]] [] [⟨aD.ks, 92, 32, (List.map aD.enc r.Props)⟩]
theorem iG : ∀ y z, dA y = dA z → y = z := fun y z h => aB.inj (congrArg (fun o => [avD (aO 0 (cellsOf (aO 0 (Out.res o)))), avD (aO 1 (cellsOf (aO 0 (Out.res o)))), avD (aO 2 (cellsOf (aO 0 (Out.res o)))), avD (aO 3 (cellsOf (aO 0 (Out.res o)))), avD (aO 4 (cellsOf (aO 0 (Out.res o)))), avD (aO 5 (cellsOf (aO 0 (Out.res o)))), avD (aO 6 (cellsOf (aO 0 (Out.res o)))), avD (aO 7 (cellsOf (aO 0 (Out.res o)))), D.sl aD.ks (dG 0 (Out.rws o))]) h)
def bR : (aA) → Out := fun r => .ret [aA.av r] [] []
theorem aek : ∀ y z, bR y = bR z → y = z := fun y z h => aA.inj (congrArg (fun o => List.map avD (cellsOf (aO 0 (Out.res o)))) h)
def kY : (bU) → Out := fun r => .ret [bU.av r] [] []
theorem ag7 : ∀ y z, kY y = kY z → y = z := fun y z h => bU.inj (congrArg (fun o => List.map avD (cellsOf (aO 0 (Out.res o)))) h)
def aH : (Int) → Out := fun r => .ret [.d (.int .i64 r)] [] []
theorem aY : ∀ y z, aH y = aH z → y = z := fun y z h => congrArg (fun o => aM (avD (aO 0 (Out.res o)))) h
def eD : (Str × Bool) → Out := fun r => .ret [.d (.str r.1), .d (.bool r.2)] [] []
theorem vW : ∀ y z, eD y = eD z → y = z := fun y z h => Prod.ext (congrArg (fun o => aV (avD (aO 0 (Out.res o)))) h) (congrArg (fun o => bB (avD (aO 1 (Out.res o)))) h)
def bL : (Str × Str × Bool) → Out := fun r => .ret [.d (.str r.1), .d (.str r.2.1), .d (.bool r.2.2)] [] []
theorem m8 : ∀ y z, bL y = bL z → y = z := fun y z h => Prod.ext (congrArg (fun o => aV (avD (aO 0 (Out.res o)))) h) (Prod.ext (congrArg (fun o => aV (avD (aO 1 (Out.res o)))) h) (congrArg (fun o => bB (avD (aO 2 (Out.res o)))) h))
def cD : ((List Str)) → Out := fun r => .ret [.d (.sl [.str] (List.map bC r))] [] []
theorem uC : ∀ y z, cD y = cD z → y = z := fun y z h => map_inj ajM (congrArg (fun o => dSl (avD (aO 0 (Out.res o)))) h)
def mQ : (Bool × Bool) → Out := fun r => .ret [.d (.bool r.1), .d (.bool r.2)] [] []
theorem ab7 : ∀ y z, mQ y = mQ z → y = z := fun y z h => Prod.ext (congrArg (fun o => bB (avD (aO 0 (Out.res o)))) h) (congrArg (fun o => bB (avD (aO 1 (Out.res o)))) h)
def aW : ((List aA) × Int × client_Client) → Out := fun r => .ret [.row 0, .d (.int .i64 r.2.1)] [⟨83, (client_Client.avs r.2.2)⟩] [⟨aA.ks, 67, 416, (List.map aA.enc r.1)⟩]
theorem cK : ∀ y z, aW y = aW z → y = z := fun y z h => Prod.ext (map_inj aA.inj (congrArg (fun o => dG 0 (Out.rws o)) h)) (Prod.ext (congrArg (fun o => aM (avD (aO 1 (Out.res o)))) h) (client_Client.inj (congrArg (fun o => List.map avD (v8 0 (Out.bxs o))) h)))
def lT : (client_Client) → Out := fun r => .ret [.fn 79 [.ptr 0 0] []] [⟨83, (client_Client.avs r)⟩] []
theorem zT : ∀ y z, lT y = lT z → y = z := fun y z h => client_Client.inj (congrArg (fun o => List.map avD (v8 0 (Out.bxs o))) h)
def lP : (client_Client) → Out := fun r => .ret [.fn 80 [.ptr 0 0] []] [⟨83, (client_Client.avs r)⟩] []
theorem zU : ∀ y z, lP y = lP z → y = z := fun y z h => client_Client.inj (congrArg (fun o => List.map avD (v8 0 (Out.bxs o))) h)
def lO : (client_Client) → Out := fun r => .ret [.fn 81 [.ptr 0 0] []] [⟨83, (client_Client.avs r)⟩] []
theorem zN : ∀ y z, lO y = lO z → y = z := fun y z h => client_Client.inj (congrArg (fun o => List.map avD (v8 0 (Out.bxs o))) h)
def lU : (client_Client) → Out := fun r => .ret [.fn 82 [.ptr 0 0] []] [⟨83, (client_Client.avs r)⟩] []
theorem zP : ∀ y z, lU y = lU z → y = z := fun y z h => client_Client.inj (congrArg (fun o => List.map avD (v8 0 (Out.bxs o))) h)
def lW : (client_Client) → Out := fun r => .ret [.fn 83 [.ptr 0 0] []] [⟨83, (client_Client.avs r)⟩] []
theorem zS : ∀ y z, lW y = lW z → y = z := fun y z h => client_Client.inj (congrArg (fun o => List.map avD (v8 0 (Out.bxs o))) h)
def lS : (client_Client) → Out := fun r => .ret [.fn 84 [.ptr 0 0] []] [⟨83, (client_Client.avs r)⟩] []
theorem zO : ∀ y z, lS y = lS z → y = z := fun y z h => client_Client.inj (congrArg (fun o => List.map avD (v8 0 (Out.bxs o))) h)
def eP : (((client_Client) ⊕ ((client_Client) ⊕ ((client_Client) ⊕ ((client_Client) ⊕ ((client_Client) ⊕ (client_Client))))))) → Out := (abz lT (abz lP (abz lO (abz lU (abz lW lS)))))
theorem aaA : ∀ y z, eP y = eP z → y = z := (w5 (k := (some 80)) zT (w5 (k := (some 81)) zU (w5 (k := (some 82)) zN (w5 (k := (some 83)) zP (w5 (k := (some 84)) zS zO (fun _ => rfl) (fun _ => (by decide : ¬ ((some 85) : Option Nat) = (some 84)))) (fun _ => rfl) ((vM (fun _ => (by decide : ¬ ((some 84) : Option Nat) = (some 83))) (fun _ => (by decide : ¬ ((some 85) : Option Nat) = (some 83)))))) (fun _ => rfl) ((vM (fun _ => (by decide : ¬ ((some 83) : Option Nat) = (some 82))) ((vM (fun _ => (by decide : ¬ ((some 84) : Option Nat) = (some 82))) (fun _ => (by decide : ¬ ((some 85) : Option Nat) = (some 82)))))))) (fun _ => rfl) ((vM (fun _ => (by decide : ¬ ((some 82) : Option Nat) = (some 81))) ((vM (fun _ => (by decide : ¬ ((some 83) : Option Nat) = (some 81))) ((vM (fun _ => (by decide : ¬ ((some 84) : Option Nat) = (some 81))) (fun _ => (by decide : ¬ ((some 85) : Option Nat) = (some 81)))))))))) (fun _ => rfl) ((vM (fun _ => (by decide : ¬ ((some 81) : Option Nat) = (some 80))) ((vM (fun _ => (by decide : ¬ ((some 82) : Option Nat) = (some 80))) ((vM (fun _ => (by decide : ¬ ((some 83) : Option Nat) = (some 80))) ((vM (fun _ => (by decide : ¬ ((some 84) : Option Nat) = (some 80))) (fun _ => (by decide : ¬ ((some 85) : Option Nat) = (some 80))))))))))))
def bJ : (aA) → Out := fun r => .ret [.agg [.d (.int .i64 r.Kind), .d (.int .i64 r.ID), .d (.bool r.Dup), .d (.str r.Message.Topic), .d (.str r.Message.Payload), .d (.int .i64 r.Message.Level), .d (.bool r.Message.Retain), .d (.int .i64 r.Message.Priority), .d (.int .i64 r.Message.Expires), .d (.str r.Message.From), .d (.int .i64 r.Message.Seq), .row 0, .d (.str r.Client), .d (.str r.User), .d (.bool r.Clean), .d (.int .i64 r.Keep), .d (.int .i64 r.Expiry), .d (.int .i64 r.Window), .d (.bool r.Will.Set), .d (.int .i64 r.Will.Delay), .d (.str r.Will.Message.Topic), .d (.str r.Will.Message.Payload), .d (.int .i64 r.Will.Message.Level), .d (.bool r.Will.Message.Retain), .d (.int .i64 r.Will.Message.Priority), .d (.int .i64 r.Will.Message.Expires), .d (.str r.Will.Message.From), .d (.int .i64 r.Will.Message.Seq), .row 1, .d (.bool r.Present), .d (.int .i64 r.Code), .row 2, .row 3, .row 4]] [] [⟨aD.ks, 92, 32, (List.map aD.enc r.Message.Props)⟩, ⟨aD.ks, 92, 32, (List.map aD.enc r.Will.Message.Props)⟩, ⟨aJ.ks, 75, 32, (List.map aJ.enc r.Subs)⟩, ⟨[.str], 9, 16, (List.map bC r.Filters)⟩, ⟨[.int .i64], 3, 8, (List.map (encI .i64) r.Codes)⟩]
theorem gO : ∀ y z, bJ y = bJ z → y = z := fun y z h => aA.inj (congrArg (fun o => [avD (aO 0 (cellsOf (aO 0 (Out.res o)))), avD (aO 1 (cellsOf (aO 0 (Out.res o)))), avD (aO 2 (cellsOf (aO 0 (Out.res o)))), avD (aO 3 (cellsOf (aO 0 (Out.res o)))), avD (aO 4 (cellsOf (aO 0 (Out.res o)))), avD (aO 5 (cellsOf (aO 0 (Out.res o)))), avD (aO 6 (cellsOf (aO 0 (Out.res o)))), avD (aO 7 (cellsOf (aO 0 (Out.res o)))), avD (aO 8 (cellsOf (aO 0 (Out.res o)))), avD (aO 9 (cellsOf (aO 0 (Out.res o)))), avD (aO 10 (cellsOf (aO 0 (Out.res o)))), D.sl aD.ks (dG 0 (Out.rws o)), avD (aO 12 (cellsOf (aO 0 (Out.res o)))), avD (aO 13 (cellsOf (aO 0 (Out.res o)))), avD (aO 14 (cellsOf (aO 0 (Out.res o)))), avD (aO 15 (cellsOf (aO 0 (Out.res o)))), avD (aO 16 (cellsOf (aO 0 (Out.res o)))), avD (aO 17 (cellsOf (aO 0 (Out.res o)))), avD (aO 18 (cellsOf (aO 0 (Out.res o)))), avD (aO 19 (cellsOf (aO 0 (Out.res o)))), avD (aO 20 (cellsOf (aO 0 (Out.res o)))), avD (aO 21 (cellsOf (aO 0 (Out.res o)))), avD (aO 22 (cellsOf (aO 0 (Out.res o)))), avD (aO 23 (cellsOf (aO 0 (Out.res o)))), avD (aO 24 (cellsOf (aO 0 (Out.res o)))), avD (aO 25 (cellsOf (aO 0 (Out.res o)))), avD (aO 26 (cellsOf (aO 0 (Out.res o)))), avD (aO 27 (cellsOf (aO 0 (Out.res o)))), D.sl aD.ks (dG 1 (Out.rws o)), avD (aO 29 (cellsOf (aO 0 (Out.res o)))), avD (aO 30 (cellsOf (aO 0 (Out.res o)))), D.sl aJ.ks (dG 2 (Out.rws o)), D.sl [.str] (dG 3 (Out.rws o)), D.sl [.int .i64] (dG 4 (Out.rws o))]) h)
def bZ : ((List aA)) → Out := fun r => .ret [.row 0] [] [⟨aA.ks, 67, 416, (List.map aA.enc r)⟩]
theorem vQ : ∀ y z, bZ y = bZ z → y = z := fun y z h => map_inj aA.inj (congrArg (fun o => dG 0 (Out.rws o)) h)
def bW : (Int × Bool) → Out := fun r => .ret [.d (.int .i64 r.1), .d (.bool r.2)] [] []
theorem eV : ∀ y z, bW y = bW z → y = z := fun y z h => Prod.ext (congrArg (fun o => aM (avD (aO 0 (Out.res o)))) h) (congrArg (fun o => bB (avD (aO 1 (Out.res o)))) h)
def aT : ((List Int)) → Out := fun r => .ret [.row 0] [] [⟨[.int .i64], 3, 8, (List.map (encI .i64) r)⟩]
theorem bV : ∀ y z, aT y = aT z → y = z := fun y z h => map_inj (af6 _) (congrArg (fun o => dG 0 (Out.rws o)) h)
def dN : (Int × aL × Int) → Out := fun r => .ret [.d (.int .i64 r.1), .agg [.row 0, .d (.int .i64 r.2.1.Last)], .d (.int .i64 r.2.2)] [] [⟨[.int .i64], 3, 8, (List.map (encI .i64) r.2.1.Used)⟩]
theorem afM : ∀ y z, dN y = dN z → y = z := fun y z h => Prod.ext (congrArg (fun o => aM (avD (aO 0 (Out.res o)))) h) (Prod.ext (aL.inj (congrArg (fun o => [D.sl [.int .i64] (dG 0 (Out.rws o)), avD (aO 1 (cellsOf (aO 1 (Out.res o))))]) h)) (congrArg (fun o => aM (avD (aO 2 (Out.res o)))) h))
def fE : (aF × aA × Int) → Out := fun r => .ret [.agg [.d (.int .i64 r.1.Limit), .row 0, .row 1, .d (.int .i64 r.1.Pool.Last)], .agg [.d (.int .i64 r.2.1.Kind), .d (.int .i64 r.2.1.ID), .d (.bool r.2.1.Dup), .d (.str r.2.1.Message.Topic), .d (.str r.2.1.Message.Payload), .d (.int .i64 r.2.1.Message.Level), .d (.bool r.2.1.Message.Retain), .d (.int .i64 r.2.1.Message.Priority), .d (.int .i64 r.2.1.Message.Expires), .d (.str r.2.1.Message.From), .d (.int .i64 r.2.1.Message.Seq), .row 2, .d (.str r.2.1.Client), .d (.str r.2.1.User), .d (.bool r.2.1.Clean), .d (.int .i64 r.2.1.Keep), .d (.int .i64 r.2.1.Expiry), .d (.int .i64 r.2.1.Window), .d (.bool r.2.1.Will.Set), .d (.int .i64 r.2.1.Will.Delay), .d (.str r.2.1.Will.Message.Topic), .d (.str r.2.1.Will.Message.Payload), .d (.int .i64 r.2.1.Will.Message.Level), .d (.bool r.2.1.Will.Message.Retain), .d (.int .i64 r.2.1.Will.Message.Priority), .d (.int .i64 r.2.1.Will.Message.Expires), .d (.str r.2.1.Will.Message.From), .d (.int .i64 r.2.1.Will.Message.Seq), .row 3, .d (.bool r.2.1.Present), .d (.int .i64 r.2.1.Code), .row 4, .row 5, .row 6], .d (.int .i64 r.2.2)] [] [⟨aC.ks, 139, 128, (List.map aC.enc r.1.Items)⟩, ⟨[.int .i64], 3, 8, (List.map (encI .i64) r.1.Pool.Used)⟩, ⟨aD.ks, 92, 32, (List.map aD.enc r.2.1.Message.Props)⟩, ⟨aD.ks, 92, 32, (List.map aD.enc r.2.1.Will.Message.Props)⟩, ⟨aJ.ks, 75, 32, (List.map aJ.enc r.2.1.Subs)⟩, ⟨[.str], 9, 16, (List.map bC r.2.1.Filters)⟩, ⟨[.int .i64], 3, 8, (List.map (encI .i64) r.2.1.Codes)⟩]
theorem ag6 : ∀ y z, fE y = fE z → y = z := fun y z h => Prod.ext (aF.inj (congrArg (fun o => [avD (aO 0 (cellsOf (aO 0 (Out.res o)))), D.sl aC.ks (dG 0 (Out.rws o)), D.sl [.int .i64] (dG 1 (Out.rws o)), avD (aO 3 (cellsOf (aO 0 (Out.res o))))]) h)) (Prod.ext (aA.inj (congrArg (fun o => [avD (aO 0 (cellsOf (aO 1 (Out.res o)))), avD (aO 1 (cellsOf (aO 1 (Out.res o)))), avD (aO 2 (cellsOf (aO 1 (Out.res o)))), avD (aO 3 (cellsOf (aO 1 (Out.res o)))), avD (aO 4 (cellsOf (aO 1 (Out.res o)))), avD (aO 5 (cellsOf (aO 1 (Out.res o)))), avD (aO 6 (cellsOf (aO 1 (Out.res o)))), avD (aO 7 (cellsOf (aO 1 (Out.res o)))), avD (aO 8 (cellsOf (aO 1 (Out.res o)))), avD (aO 9 (cellsOf (aO 1 (Out.res o)))), avD (aO 10 (cellsOf (aO 1 (Out.res o)))), D.sl aD.ks (dG 2 (Out.rws o)), avD (aO 12 (cellsOf (aO 1 (Out.res o)))), avD (aO 13 (cellsOf (aO 1 (Out.res o)))), avD (aO 14 (cellsOf (aO 1 (Out.res o)))), avD (aO 15 (cellsOf (aO 1 (Out.res o)))), avD (aO 16 (cellsOf (aO 1 (Out.res o)))), avD (aO 17 (cellsOf (aO 1 (Out.res o)))), avD (aO 18 (cellsOf (aO 1 (Out.res o)))), avD (aO 19 (cellsOf (aO 1 (Out.res o)))), avD (aO 20 (cellsOf (aO 1 (Out.res o)))), avD (aO 21 (cellsOf (aO 1 (Out.res o)))), avD (aO 22 (cellsOf (aO 1 (Out.res o)))), avD (aO 23 (cellsOf (aO 1 (Out.res o)))), avD (aO 24 (cellsOf (aO 1 (Out.res o)))), avD (aO 25 (cellsOf (aO 1 (Out.res o)))), avD (aO 26 (cellsOf (aO 1 (Out.res o)))), avD (aO 27 (cellsOf (aO 1 (Out.res o)))), D.sl aD.ks (dG 3 (Out.rws o)), avD (aO 29 (cellsOf (aO 1 (Out.res o)))), avD (aO 30 (cellsOf (aO 1 (Out.res o)))), D.sl aJ.ks (dG 4 (Out.rws o)), D.sl [.str] (dG 5 (Out.rws o)), D.sl [.int .i64] (dG 6 (Out.rws o))]) h)) (congrArg (fun o => aM (avD (aO 2 (Out.res o)))) h))
def bN : ((List aA) × client_Client) → Out := fun r => .ret [.row 0] [⟨83, (client_Client.avs r.2)⟩] [⟨aA.ks, 67, 416, (List.map aA.enc r.1)⟩]
theorem kM : ∀ y z, bN y = bN z → y = z := fun y z h => Prod.ext (map_inj aA.inj (congrArg (fun o => dG 0 (Out.rws o)) h)) (client_Client.inj (congrArg (fun o => List.map avD (v8 0 (Out.bxs o))) h))
def aP : ((List aA) × (List aB) × Int × client_Client) → Out := fun r => .ret [.row 0, .row 1, .d (.int .i64 r.2.2.1)] [⟨83, (client_Client.avs r.2.2.2)⟩] [⟨aA.ks, 67, 416, (List.map aA.enc r.1)⟩, ⟨aB.ks, 54, 112, (List.map aB.enc r.2.1)⟩]
theorem cU : ∀ y z, aP y = aP z → y = z := fun y z h => Prod.ext (map_inj aA.inj (congrArg (fun o => dG 0 (Out.rws o)) h)) (Prod.ext (map_inj aB.inj (congrArg (fun o => dG 1 (Out.rws o)) h)) (Prod.ext (congrArg (fun o => aM (avD (aO 2 (Out.res o)))) h) (client_Client.inj (congrArg (fun o => List.map avD (v8 0 (Out.bxs o))) h))))
def bT : (aA × Bool) → Out := fun r => .ret [.agg [.d (.int .i64 r.1.Kind), .d (.int .i64 r.1.ID), .d (.bool r.1.Dup), .d (.str r.1.Message.Topic), .d (.str r.1.Message.Payload), .d (.int .i64 r.1.Message.Level), .d (.bool r.1.Message.Retain), .d (.int .i64 r.1.Message.Priority), .d (.int .i64 r.1.Message.Expires), .d (.str r.1.Message.From), .d (.int .i64 r.1.Message.Seq), .row 0, .d (.str r.1.Client), .d (.str r.1.User), .d (.bool r.1.Clean), .d (.int .i64 r.1.Keep), .d (.int .i64 r.1.Expiry), .d (.int .i64 r.1.Window), .d (.bool r.1.Will.Set), .d (.int .i64 r.1.Will.Delay), .d (.str r.1.Will.Message.Topic), .d (.str r.1.Will.Message.Payload), .d (.int .i64 r.1.Will.Message.Level), .d (.bool r.1.Will.Message.Retain), .d (.int .i64 r.1.Will.Message.Priority), .d (.int .i64 r.1.Will.Message.Expires), .d (.str r.1.Will.Message.From), .d (.int .i64 r.1.Will.Message.Seq), .row 1, .d (.bool r.1.Present), .d (.int .i64 r.1.Code), .row 2, .row 3, .row 4], .d (.bool r.2)] [] [⟨aD.ks, 92, 32, (List.map aD.enc r.1.Message.Props)⟩, ⟨aD.ks, 92, 32, (List.map aD.enc r.1.Will.Message.Props)⟩, ⟨aJ.ks, 75, 32, (List.map aJ.enc r.1.Subs)⟩, ⟨[.str], 9, 16, (List.map bC r.1.Filters)⟩, ⟨[.int .i64], 3, 8, (List.map (encI .i64) r.1.Codes)⟩]
theorem ai8 : ∀ y z, bT y = bT z → y = z := fun y z h => Prod.ext (aA.inj (congrArg (fun o => [avD (aO 0 (cellsOf (aO 0 (Out.res o)))), avD (aO 1 (cellsOf (aO 0 (Out.res o)))), avD (aO 2 (cellsOf (aO 0 (Out.res o)))), avD (aO 3 (cellsOf (aO 0 (Out.res o)))), avD (aO 4 (cellsOf (aO 0 (Out.res o)))), avD (aO 5 (cellsOf (aO 0 (Out.res o)))), avD (aO 6 (cellsOf (aO 0 (Out.res o)))), avD (aO 7 (cellsOf (aO 0 (Out.res o)))), avD (aO 8 (cellsOf (aO 0 (Out.res o)))), avD (aO 9 (cellsOf (aO 0 (Out.res o)))), avD (aO 10 (cellsOf (aO 0 (Out.res o)))), D.sl aD.ks (dG 0 (Out.rws o)), avD (aO 12 (cellsOf (aO 0 (Out.res o)))), avD (aO 13 (cellsOf (aO 0 (Out.res o)))), avD (aO 14 (cellsOf (aO 0 (Out.res o)))), avD (aO 15 (cellsOf (aO 0 (Out.res o)))), avD (aO 16 (cellsOf (aO 0 (Out.res o)))), avD (aO 17 (cellsOf (aO 0 (Out.res o)))), avD (aO 18 (cellsOf (aO 0 (Out.res o)))), avD (aO 19 (cellsOf (aO 0 (Out.res o)))), avD (aO 20 (cellsOf (aO 0 (Out.res o)))), avD (aO 21 (cellsOf (aO 0 (Out.res o)))), avD (aO 22 (cellsOf (aO 0 (Out.res o)))), avD (aO 23 (cellsOf (aO 0 (Out.res o)))), avD (aO 24 (cellsOf (aO 0 (Out.res o)))), avD (aO 25 (cellsOf (aO 0 (Out.res o)))), avD (aO 26 (cellsOf (aO 0 (Out.res o)))), avD (aO 27 (cellsOf (aO 0 (Out.res o)))), D.sl aD.ks (dG 1 (Out.rws o)), avD (aO 29 (cellsOf (aO 0 (Out.res o)))), avD (aO 30 (cellsOf (aO 0 (Out.res o)))), D.sl aJ.ks (dG 2 (Out.rws o)), D.sl [.str] (dG 3 (Out.rws o)), D.sl [.int .i64] (dG 4 (Out.rws o))]) h)) (congrArg (fun o => bB (avD (aO 1 (Out.res o)))) h)
def dO : (aI × Bool × (List aA) × Int) → Out := fun r => .ret [.agg [.row 0], .d (.bool r.2.1), .row 1, .d (.int .i64 r.2.2.2)] [] [⟨[.int .i64], 3, 8, (List.map (encI .i64) r.1.IDs)⟩, ⟨aA.ks, 67, 416, (List.map aA.enc r.2.2.1)⟩]
theorem aih : ∀ y z, dO y = dO z → y = z := fun y z h => Prod.ext (aI.inj (congrArg (fun o => [D.sl [.int .i64] (dG 0 (Out.rws o))]) h)) (Prod.ext (congrArg (fun o => bB (avD (aO 1 (Out.res o)))) h) (Prod.ext (map_inj aA.inj (congrArg (fun o => dG 1 (Out.rws o)) h)) (congrArg (fun o => aM (avD (aO 3 (Out.res o)))) h)))
def bY : (aI × aA × Int) → Out := fun r => .ret [.agg [.row 0], .agg [.d (.int .i64 r.2.1.Kind), .d (.int .i64 r.2.1.ID), .d (.bool r.2.1.Dup), .d (.str r.2.1.Message.Topic), .d (.str r.2.1.Message.Payload), .d (.int .i64 r.2.1.Message.Level), .d (.bool r.2.1.Message.Retain), .d (.int .i64 r.2.1.Message.Priority), .d (.int .i64 r.2.1.Message.Expires), .d (.str r.2.1.Message.From), .d (.int .i64 r.2.1.Message.Seq), .row 1, .d (.str r.2.1.Client), .d (.str r.2.1.User), .d (.bool r.2.1.Clean), .d (.int .i64 r.2.1.Keep), .d (.int .i64 r.2.1.Expiry), .d (.int .i64 r.2.1.Window), .d (.bool r.2.1.Will.Set), .d (.int .i64 r.2.1.Will.Delay), .d (.str r.2.1.Will.Message.Topic), .d (.str r.2.1.Will.Message.Payload), .d (.int .i64 r.2.1.Will.Message.Level), .d (.bool r.2.1.Will.Message.Retain), .d (.int .i64 r.2.1.Will.Message.Priority), .d (.int .i64 r.2.1.Will.Message.Expires), .d (.str r.2.1.Will.Message.From), .d (.int .i64 r.2.1.Will.Message.Seq), .row 2, .d (.bool r.2.1.Present), .d (.int .i64 r.2.1.Code), .row 3, .row 4, .row 5], .d (.int .i64 r.2.2)] [] [⟨[.int .i64], 3, 8, (List.map (encI .i64) r.1.IDs)⟩, ⟨aD.ks, 92, 32, (List.map aD.enc r.2.1.Message.Props)⟩, ⟨aD.ks, 92, 32, (List.map aD.enc r.2.1.Will.Message.Props)⟩, ⟨aJ.ks, 75, 32, (List.map aJ.enc r.2.1.Subs)⟩, ⟨[.str], 9, 16, (List.map bC r.2.1.Filters)⟩, ⟨[.int .i64], 3, 8, (List.map (encI .i64) r.2.1.Codes)⟩]
theorem aaU : ∀ y z, bY y = bY z → y = z := fun y z h => Prod.ext (aI.inj (congrArg (fun o => [D.sl [.int .i64] (dG 0 (Out.rws o))]) h)) (Prod.ext (aA.inj (congrArg (fun o => [avD (aO 0 (cellsOf (aO 1 (Out.res o)))), avD (aO 1 (cellsOf (aO 1 (Out.res o)))), avD (aO 2 (cellsOf (aO 1 (Out.res o)))), avD (aO 3 (cellsOf (aO 1 (Out.res o)))), avD (aO 4 (cellsOf (aO 1 (Out.res o)))), avD (aO 5 (cellsOf (aO 1 (Out.res o)))), avD (aO 6 (cellsOf (aO 1 (Out.res o)))), avD (aO 7 (cellsOf (aO 1 (Out.res o)))), avD (aO 8 (cellsOf (aO 1 (Out.res o)))), avD (aO 9 (cellsOf (aO 1 (Out.res o)))), avD (aO 10 (cellsOf (aO 1 (Out.res o)))), D.sl aD.ks (dG 1 (Out.rws o)), avD (aO 12 (cellsOf (aO 1 (Out.res o)))), avD (aO 13 (cellsOf (aO 1 (Out.res o)))), avD (aO 14 (cellsOf (aO 1 (Out.res o)))), avD (aO 15 (cellsOf (aO 1 (Out.res o)))), avD (aO 16 (cellsOf (aO 1 (Out.res o)))), avD (aO 17 (cellsOf (aO 1 (Out.res o)))), avD (aO 18 (cellsOf (aO 1 (Out.res o)))), avD (aO 19 (cellsOf (aO 1 (Out.res o)))), avD (aO 20 (cellsOf (aO 1 (Out.res o)))), avD (aO 21 (cellsOf (aO 1 (Out.res o)))), avD (aO 22 (cellsOf (aO 1 (Out.res o)))), avD (aO 23 (cellsOf (aO 1 (Out.res o)))), avD (aO 24 (cellsOf (aO 1 (Out.res o)))), avD (aO 25 (cellsOf (aO 1 (Out.res o)))), avD (aO 26 (cellsOf (aO 1 (Out.res o)))), avD (aO 27 (cellsOf (aO 1 (Out.res o)))), D.sl aD.ks (dG 2 (Out.rws o)), avD (aO 29 (cellsOf (aO 1 (Out.res o)))), avD (aO 30 (cellsOf (aO 1 (Out.res o)))), D.sl aJ.ks (dG 3 (Out.rws o)), D.sl [.str] (dG 4 (Out.rws o)), D.sl [.int .i64] (dG 5 (Out.rws o))]) h)) (congrArg (fun o => aM (avD (aO 2 (Out.res o)))) h))
def kA : (Bool × Int) → Out := fun r => .ret [.d (.bool r.1)] [⟨3, [.d (.int .i64 r.2)]⟩] []
theorem agP : ∀ y z, kA y = kA z → y = z := fun y z h => Prod.ext (congrArg (fun o => bB (avD (aO 0 (Out.res o)))) h) (congrArg (fun o => aM (avD (aO 0 (v8 0 (Out.bxs o))))) h)
def cR : (Int × Int) → Out := fun r => .ret [.d (.int .i64 r.1)] [⟨3, [.d (.int .i64 r.2)]⟩] []
theorem sA : ∀ y z, cR y = cR z → y = z := fun y z h => Prod.ext (congrArg (fun o => aM (avD (aO 0 (Out.res o)))) h) (congrArg (fun o => aM (avD (aO 0 (v8 0 (Out.bxs o))))) h)
def fF : (aL × Bool) → Out := fun r => .ret [.agg [.row 0, .d (.int .i64 r.1.Last)], .d (.bool r.2)] [] [⟨[.int .i64], 3, 8, (List.map (encI .i64) r.1.Used)⟩]
theorem aa4 : ∀ y z, fF y = fF z → y = z := fun y z h => Prod.ext (aL.inj (congrArg (fun o => [D.sl [.int .i64] (dG 0 (Out.rws o)), avD (aO 1 (cellsOf (aO 0 (Out.res o))))]) h)) (congrArg (fun o => bB (avD (aO 1 (Out.res o)))) h)
def dM : ((List aC)) → Out := fun r => .ret [.row 0] [] [⟨aC.ks, 139, 128, (List.map aC.enc r)⟩]
theorem sY : ∀ y z, dM y = dM z → y = z := fun y z h => map_inj aC.inj (congrArg (fun o => dG 0 (Out.rws o)) h)
def cQ : (aF × (List aA) × Int) → Out := fun r => .ret [.agg [.d (.int .i64 r.1.Limit), .row 0, .row 1, .d (.int .i64 r.1.Pool.Last)], .row 2, .d (.int .i64 r.2.2)] [] [⟨aC.ks, 139, 128, (List.map aC.enc r.1.Items)⟩, ⟨[.int .i64], 3, 8, (List.map (encI .i64) r.1.Pool.Used)⟩, ⟨aA.ks, 67, 416, (List.map aA.enc r.2.1)⟩]
theorem ag0 : ∀ y z, cQ y = cQ z → y = z := fun y z h => Prod.ext (aF.inj (congrArg (fun o => [avD (aO 0 (cellsOf (aO 0 (Out.res o)))), D.sl aC.ks (dG 0 (Out.rws o)), D.sl [.int .i64] (dG 1 (Out.rws o)), avD (aO 3 (cellsOf (aO 0 (Out.res o))))]) h)) (Prod.ext (map_inj aA.inj (congrArg (fun o => dG 2 (Out.rws o)) h)) (congrArg (fun o => aM (avD (aO 2 (Out.res o)))) h))
def cJ : ((List aB)) → Out := fun r => .ret [.row 0] [] [⟨aB.ks, 54, 112, (List.map aB.enc r)⟩]
theorem sS : ∀ y z, cJ y = cJ z → y = z := fun y z h => map_inj aB.inj (congrArg (fun o => dG 0 (Out.rws o)) h)
noncomputable def oL : List (Nat × ab1) := [(26, .one aE), (27, .one bI), (7, .two lI), (53, .one aE), (54, .one aE), (28, .one aE), (29, .one bI), (8, .one dQ), (10, .one dV), (11, .one cW), (55, .one cL), (30, .one dA), (68, .one aE), (70, .one bR), (106, .one kY), (107, .one aE), (108, .one aE), (109, .one aE), (110, .one aE), (69, .one aE), (95, .one aE), (56, .one aE), (57, .one aE), (96, .one aE), (58, .one aH), (31, .one aH), (71, .one aH), (72, .one aE), (74, .one aH), (73, .one aH), (111, .one aH), (160, .one aE), (171, .one eD), (157, .one eD), (176, .one aH), (174, .one aH), (172, .one bL), (158, .one bL), (182, .one aH), (181, .one aH), (175, .one cD), (173, .one cD), (159, .one cD), (144, .one aE), (145, .one aE), (143, .one bL), (112, .one mQ), (75, .one aH), (76, .one aH), (77, .one aH), (38, .one aH), (20, .one aW), (78, .one aE), (39, .one aE), (40, .six eP), (146, .one bJ), (100, .one dA), (101, .one bJ), (113, .one bZ), (97, .one aH), (138, .one aH), (155, .one aE), (139, .one aE), (140, .one aE), (102, .one bW), (62, .one aT), (104, .one aT), (98, .one dN), (99, .one bI), (59, .one fE), (33, .one bN), (79, .one aP), (61, .one aE), (63, .one aT), (64, .one bT), (35, .one dO), (80, .one aP), (103, .one aT), (60, .one aT), (34, .one bY), (81, .one aP), (162, .one kA), (161, .one cR), (147, .one aH), (163, .one fF), (164, .one dM), (148, .one bI), (114, .one cQ), (82, .one aP), (83, .one aP), (84, .one aP), (21, .one aP), (32, .one cJ), (13, .one aW), (9, .one aE), (3, .one aE)]
def good : FuncId → Out → Prop := abH oL
noncomputable def K (κ : Tau) : n8 := asw oL κ
noncomputable abbrev kF (f : FuncId) : Tau := adF SE good f
theorem Kr (f : FuncId) : K (kF f) = hJ (jP SE good) := aqW oL f
noncomputable abbrev bdy (κ : Tau) (f : FuncId) (a : List AV) (b : List Bx) (r : List Rw) : Res := aqn SE K κ f a b r
theorem bG {f nb p st} {t x : Res} (h : bO SE (K (kF f)) (kF f).Λ (kF f).J f nb p st = t) (h2 : Le x t) : Le x (lab SE (K (kF f)) (kF f).Λ (kF f).J f nb p st) := atN (Kr f) h h2
theorem bA {f a b r} {t x : Res} (h : bdy (kF f) f a b r = t) (h2 : Le x t) (hlib : SE.lib f = none := by rfl) : Le x (aX SE f a b r) := ase (Kr f) hlib h h2
theorem lQ {f g : FuncId} {R S : Type} {out : R → Out} {e : S → Out} {x : Option R} {M : R → Option S} {a : List AV} {b : List Bx} {r : List Rw} {k : R → Res} (hg : ∀ y, good g (out y)) (hi : ∀ y z, out y = out z → y = z) (h : Le (x.map out) (aX SE g a b r)) (hk : ∀ y, x = some y → Le ((M y).map e) (k y)) : Le ((x.bind M).map e) ((kF f).t g out a b r k) := atU (good := good) hg hi h hk
theorem lQp {f g : FuncId} {Q R S : Type} {out : Q ⊕ R → Out} {e : S → Out} {x : Option (Q ⊕ R)} {Mp : Q → Option S} {M : R → Option S} {a : List AV} {b : List Bx} {r : List Rw} {kp : Q → Res} {k : R → Res} (hg : ∀ y, good g (out y)) (hi : ∀ y z, out y = out z → y = z) (h : Le (x.map out) (aX SE g a b r)) (hp : ∀ y, x = some (.inl y) → Le ((Mp y).map e) (kp y)) (hk : ∀ y, x = some (.inr y) → Le ((M y).map e) (k y)) : Le ((acf x Mp M).map e) ((kF f).p g out a b r kp k) := anW (good := good) hg hi h hp hk
theorem lQ6 {f g : FuncId} {A B C D E F S : Type} {out : S6 A B C D E F → Out} {e : S → Out} {x : Option (S6 A B C D E F)} {a : List AV} {b : List Bx} {r : List Rw} {m0 : A → Option S} {m1 : B → Option S} {m2 : C → Option S} {m3 : D → Option S} {m4 : E → Option S} {m5 : F → Option S} {k0 : A → Res} {k1 : B → Res} {k2 : C → Res} {k3 : D → Res} {k4 : E → Res} {k5 : F → Res} (hg : ∀ y, good g (out y)) (hi : ∀ y z, out y = out z → y = z) (h : Le (x.map out) (aX SE g a b r)) (h0 : ∀ y, x = some (.inl y) → Le ((m0 y).map e) (k0 y)) (h1 : ∀ y, x = some (.inr (.inl y)) → Le ((m1 y).map e) (k1 y)) (h2 : ∀ y, x = some (.inr (.inr (.inl y))) → Le ((m2 y).map e) (k2 y)) (h3 : ∀ y, x = some (.inr (.inr (.inr (.inl y)))) → Le ((m3 y).map e) (k3 y)) (h4 : ∀ y, x = some (.inr (.inr (.inr (.inr (.inl y))))) → Le ((m4 y).map e) (k4 y)) (h5 : ∀ y, x = some (.inr (.inr (.inr (.inr (.inr y))))) → Le ((m5 y).map e) (k5 y)) : Le ((apL x m0 m1 m2 m3 m4 m5).map e) ((kF f).s g out a b r k0 k1 k2 k3 k4 k5) := asE (good := good) hg hi h h0 h1 h2 h3 h4 h5
end Te
end PX
