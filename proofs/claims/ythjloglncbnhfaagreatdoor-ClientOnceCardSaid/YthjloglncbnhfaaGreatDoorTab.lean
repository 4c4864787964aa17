import Derived.Test.YthjloglncbnhfaaGreatDoorMod
import Derived.Test.YthjloglncbnhfaaGreatDoorProg
set_option linter.unusedVariables false
set_option linter.unusedSimpArgs false
noncomputable section
namespace PX
open Go
open Md
namespace Te
noncomputable def tyL : List (Nat × TI) := [(3, ⟨[.int .i64], false, 8, [], 0⟩),
 (4, ⟨[.bool], false, 1, [], 0⟩),
 (5, ⟨[.int .u8], false, 1, [], 0⟩),
 (9, ⟨[.str], false, 16, [], 0⟩),
 (21, ⟨[.int .i32], false, 4, [], 0⟩),
 (22, ⟨[.ptr], false, 8, [], 83⟩),
 (23, ⟨[.int .i64], false, 8, [], 0⟩),
 (26, ⟨[.sl [.int .i64, .int .i64, .str, .str, .int .i64, .bool, .int .i64, .int .i64, .str, .int .i64, .sl [.str, .str]]], false, 24, [], 139⟩),
 (27, ⟨[.sl [.int .i64]], false, 24, [], 3⟩),
 (29, ⟨[.sl [.int .i64], .int .i64], true, 32, [(0, 27), (1, 3)], 0⟩),
 (31, ⟨[.int .i64, .sl [.int .i64, .int .i64, .str, .str, .int .i64, .bool, .int .i64, .int .i64, .str, .int .i64, .sl [.str, .str]], .sl [.int .i64], .int .i64], true, 64, [(0, 3), (1, 26), (2, 29)], 0⟩),
 (33, ⟨[.sl [.int .i64]], true, 24, [(0, 27)], 0⟩),
 (34, ⟨[.sl [.str, .str, .int .i64, .bool, .int .i64, .int .i64, .str, .int .i64, .sl [.str, .str]]], false, 24, [], 54⟩),
 (42, ⟨[.sl [.int .i64, .str]], false, 24, [], 49⟩),
 (43, ⟨[.sl [.int .i64, .int .i64, .bool, .str, .str, .int .i64, .bool, .int .i64, .int .i64, .str, .int .i64, .sl [.str, .str], .str, .str, .bool, .int .i64, .int .i64, .int .i64, .bool, .int .i64, .str, .str, .int .i64, .bool, .int .i64, .int .i64, .str, .int .i64, .sl [.str, .str], .bool, .int .i64, .sl [.str, .int .i64, .bool], .sl [.str], .sl [.int .i64]]], false, 24, [], 67⟩),
 (45, ⟨[.ptr, .sl [.int .i64], .sl [.int .i64, .int .i64, .bool, .str, .str, .int .i64, .bool, .int .i64, .int .i64, .str, .int .i64, .sl [.str, .str], .str, .str, .bool, .int .i64, .int .i64, .int .i64, .bool, .int .i64, .str, .str, .int .i64, .bool, .int .i64, .int .i64, .str, .int .i64, .sl [.str, .str], .bool, .int .i64, .sl [.str, .int .i64, .bool], .sl [.str], .sl [.int .i64]], .sl [.int .i64, .int .i64, .bool, .str, .str, .int .i64, .bool, .int .i64, .int .i64, .str, .int .i64, .sl [.str, .str], .str, .str, .bool, .int .i64, .int .i64, .int .i64, .bool, .int .i64, .str, .str, .int .i64, .bool, .int .i64, .int .i64, .str, .int .i64, .sl [.str, .str], .bool, .int .i64, .sl [.str, .int .i64, .bool], .sl [.str], .sl [.int .i64]], .int .i64, .sl [.str, .str, .int .i64, .bool, .int .i64, .int .i64, .str, .int .i64, .sl [.str, .str]]], true, 112, [(0, 22), (1, 33), (2, 43), (3, 43), (4, 3), (5, 34)], 0⟩),
 (49, ⟨[.int .i64, .str], true, 24, [(0, 3), (1, 9)], 0⟩),
 (52, ⟨[.sl [.str, .str]], false, 24, [], 92⟩),
 (54, ⟨[.str, .str, .int .i64, .bool, .int .i64, .int .i64, .str, .int .i64, .sl [.str, .str]], true, 112, [(0, 9), (1, 9), (2, 3), (3, 4), (4, 3), (5, 3), (6, 9), (7, 3), (8, 52)], 0⟩),
 (61, ⟨[.bool, .int .i64, .str, .str, .int .i64, .bool, .int .i64, .int .i64, .str, .int .i64, .sl [.str, .str]], true, 128, [(0, 4), (1, 3), (2, 54)], 0⟩),
 (64, ⟨[.sl [.str, .int .i64, .bool]], false, 24, [], 75⟩),
 (65, ⟨[.sl [.str]], false, 24, [], 9⟩),
 (67, ⟨[.int .i64, .int .i64, .bool, .str, .str, .int .i64, .bool, .int .i64, .int .i64, .str, .int .i64, .sl [.str, .str], .str, .str, .bool, .int .i64, .int .i64, .int .i64, .bool, .int .i64, .str, .str, .int .i64, .bool, .int .i64, .int .i64, .str, .int .i64, .sl [.str, .str], .bool, .int .i64, .sl [.str, .int .i64, .bool], .sl [.str], .sl [.int .i64]], true, 416, [(0, 3), (1, 3), (2, 4), (3, 54), (12, 9), (13, 9), (14, 4), (15, 3), (16, 3), (17, 3), (18, 61), (29, 4), (30, 3), (31, 64), (32, 65), (33, 27)], 0⟩),
 (75, ⟨[.str, .int .i64, .bool], true, 32, [(0, 9), (1, 3), (2, 4)], 0⟩),
 (83, ⟨[.str, .int .i64, .int .i64, .sl [.int .i64, .int .i64, .str, .str, .int .i64, .bool, .int .i64, .int .i64, .str, .int .i64, .sl [.str, .str]], .sl [.int .i64], .int .i64, .sl [.int .i64], .sl [.str, .str, .int .i64, .bool, .int .i64, .int .i64, .str, .int .i64, .sl [.str, .str]], .int .i64, .int .i64], true, 152, [(0, 9), (1, 3), (2, 31), (6, 33), (7, 34), (8, 3), (9, 3)], 0⟩),
 (92, ⟨[.str, .str], true, 32, [(0, 9), (1, 9)], 0⟩),
 (96, ⟨[.fn], false, 8, [], 0⟩),
 (139, ⟨[.int .i64, .int .i64, .str, .str, .int .i64, .bool, .int .i64, .int .i64, .str, .int .i64, .sl [.str, .str]], true, 128, [(0, 3), (1, 3), (2, 54)], 0⟩),
 (147, ⟨[.int .i64, .int .i64, .int .i64, .int .i64, .int .i64, .int .i64, .int .i64, .bool, .bool, .bool, .bool, .str, .str], true, 96, [(0, 3), (1, 3), (2, 3), (3, 3), (4, 3), (5, 3), (6, 3), (7, 4), (8, 4), (9, 4), (10, 4), (11, 9), (12, 9)], 0⟩),
 (164, ⟨[.int .u64], false, 8, [], 0⟩),
 (177, ⟨[.fn], false, 8, [], 0⟩)]
noncomputable def fnL : List (Nat × Func) := [(26, Go.Proofs.Tryz.f26), (27, Go.Proofs.Tryz.f27), (7, Go.Proofs.Tryz.f7), (10, Go.Proofs.Tryz.f10), (11, Go.Proofs.Tryz.f11), (55, Go.Proofs.Tryz.f55), (30, Go.Proofs.Tryz.f30), (68, Go.Proofs.Tryz.f68), (70, Go.Proofs.Tryz.f70), (106, Go.Proofs.Tryz.f106), (107, Go.Proofs.Tryz.f107), (108, Go.Proofs.Tryz.f108), (109, Go.Proofs.Tryz.f109), (110, Go.Proofs.Tryz.f110), (69, Go.Proofs.Tryz.f69), (95, Go.Proofs.Tryz.f95), (56, Go.Proofs.Tryz.f56), (57, Go.Proofs.Tryz.f57), (96, Go.Proofs.Tryz.f96), (58, Go.Proofs.Tryz.f58), (31, Go.Proofs.Tryz.f31), (71, Go.Proofs.Tryz.f71), (72, Go.Proofs.Tryz.f72), (74, Go.Proofs.Tryz.f74), (73, Go.Proofs.Tryz.f73), (111, Go.Proofs.Tryz.f111), (160, Go.Proofs.Tryz.f160), (171, Go.Proofs.Tryz.f171), (157, Go.Proofs.Tryz.f157), (176, Go.Proofs.Tryz.f176), (174, Go.Proofs.Tryz.f174), (172, Go.Proofs.Tryz.f172), (158, Go.Proofs.Tryz.f158), (182, Go.Proofs.Tryz.f182), (181, Go.Proofs.Tryz.f181), (175, Go.Proofs.Tryz.f175), (173, Go.Proofs.Tryz.f173), (159, Go.Proofs.Tryz.f159), (144, Go.Proofs.Tryz.f144), (145, Go.Proofs.Tryz.f145), (143, Go.Proofs.Tryz.f143), (112, Go.Proofs.Tryz.f112), (75, Go.Proofs.Tryz.f75), (76, Go.Proofs.Tryz.f76), (77, Go.Proofs.Tryz.f77), (38, Go.Proofs.Tryz.f38), (20, Go.Proofs.Tryz.f20), (78, Go.Proofs.Tryz.f78), (39, Go.Proofs.Tryz.f39), (40, Go.Proofs.Tryz.f40), (146, Go.Proofs.Tryz.f146), (100, Go.Proofs.Tryz.f100), (101, Go.Proofs.Tryz.f101), (113, Go.Proofs.Tryz.f113), (97, Go.Proofs.Tryz.f97), (138, Go.Proofs.Tryz.f138), (155, Go.Proofs.Tryz.f155), (139, Go.Proofs.Tryz.f139), (140, Go.Proofs.Tryz.f140), (102, Go.Proofs.Tryz.f102), (62, Go.Proofs.Tryz.f62), (104, Go.Proofs.Tryz.f104), (98, Go.Proofs.Tryz.f98), (99, Go.Proofs.Tryz.f99), (59, Go.Proofs.Tryz.f59), (33, Go.Proofs.Tryz.f33), (79, Go.Proofs.Tryz.f79), (61, Go.Proofs.Tryz.f61), (63, Go.Proofs.Tryz.f63), (64, Go.Proofs.Tryz.f64), (35, Go.Proofs.Tryz.f35), (80, Go.Proofs.Tryz.f80), (103, Go.Proofs.Tryz.f103), (60, Go.Proofs.Tryz.f60), (34, Go.Proofs.Tryz.f34), (81, Go.Proofs.Tryz.f81), (162, Go.Proofs.Tryz.f162), (161, Go.Proofs.Tryz.f161), (147, Go.Proofs.Tryz.f147), (163, Go.Proofs.Tryz.f163), (164, Go.Proofs.Tryz.f164), (148, Go.Proofs.Tryz.f148), (114, Go.Proofs.Tryz.f114), (82, Go.Proofs.Tryz.f82), (83, Go.Proofs.Tryz.f83), (84, Go.Proofs.Tryz.f84), (21, Go.Proofs.Tryz.f21), (32, Go.Proofs.Tryz.f32), (13, Go.Proofs.Tryz.f13), (9, Go.Proofs.Tryz.f9), (19, Go.Proofs.Tryz.f19), (12, Go.Proofs.Tryz.f12), (14, Go.Proofs.Tryz.f14), (15, Go.Proofs.Tryz.f15), (16, Go.Proofs.Tryz.f16), (4, Go.Proofs.Tryz.f4)]
noncomputable def tmL : List (Nat × (List Sh × List (TypeId × List Sh))) := [(26, ([.bool], [])),
 (27, ([.agg (((aG.shs).set 1 (.row 0 aC.ks 139 128)).set 2 (.row 1 [.int .i64] 3 8))], [])),
 (7, ([.ptr 0 0, .int .i64], [(83, client_Client.shs)])),
 (10, ([.bool], [(83, client_Client.shs)])),
 (11, ([.int .i64], [(83, client_Client.shs)])),
 (55, ([.row 0 aE.ks 92 32], [])),
 (30, ([.agg ((aB.shs).set 8 (.row 0 aE.ks 92 32))], [])),
 (68, ([.bool], [])),
 (70, ([aA.sh], [])),
 (106, ([bE.sh], [])),
 (107, ([.bool], [])),
 (108, ([.bool], [])),
 (109, ([.bool], [])),
 (110, ([.bool], [])),
 (69, ([.bool], [])),
 (95, ([.bool], [])),
 (56, ([.bool], [])),
 (57, ([.bool], [])),
 (96, ([.bool], [])),
 (58, ([.int .i64], [])),
 (31, ([.int .i64], [])),
 (71, ([.int .i64], [])),
 (72, ([.bool], [])),
 (74, ([.int .i64], [])),
 (73, ([.int .i64], [])),
 (111, ([.int .i64], [])),
 (160, ([.bool], [])),
 (171, ([.str, .bool], [])),
 (157, ([.str, .bool], [])),
 (176, ([.int .i64], [])),
 (174, ([.int .i64], [])),
 (172, ([.str, .str, .bool], [])),
 (158, ([.str, .str, .bool], [])),
 (182, ([.int .i64], [])),
 (181, ([.int .i64], [])),
 (175, ([.sl [.str]], [])),
 (173, ([.sl [.str]], [])),
 (159, ([.sl [.str]], [])),
 (144, ([.bool], [])),
 (145, ([.bool], [])),
 (143, ([.str, .str, .bool], [])),
 (112, ([.bool, .bool], [])),
 (75, ([.int .i64], [])),
 (76, ([.int .i64], [])),
 (77, ([.int .i64], [])),
 (38, ([.int .i64], [])),
 (20, ([.row 0 aA.ks 67 416, .int .i64], [(83, client_Client.shs)])),
 (78, ([.bool], [])),
 (39, ([.bool], [])),
 (40, ([.fn 79 [.ptr 0 0] []], [(83, client_Client.shs)])),
 (146, ([.agg ((((((aA.shs).set 11 (.row 0 aE.ks 92 32)).set 28 (.row 1 aE.ks 92 32)).set 31 (.row 2 aN.ks 75 32)).set 32 (.row 3 [.str] 9 16)).set 33 (.row 4 [.int .i64] 3 8))], [])),
 (100, ([.agg ((aB.shs).set 8 (.row 0 aE.ks 92 32))], [])),
 (101, ([.agg ((((((aA.shs).set 11 (.row 0 aE.ks 92 32)).set 28 (.row 1 aE.ks 92 32)).set 31 (.row 2 aN.ks 75 32)).set 32 (.row 3 [.str] 9 16)).set 33 (.row 4 [.int .i64] 3 8))], [])),
 (113, ([.row 0 aA.ks 67 416], [])),
 (97, ([.int .i64], [])),
 (138, ([.int .i64], [])),
 (155, ([.bool], [])),
 (139, ([.bool], [])),
 (140, ([.bool], [])),
 (102, ([.int .i64, .bool], [])),
 (62, ([.row 0 [.int .i64] 3 8], [])),
 (104, ([.row 0 [.int .i64] 3 8], [])),
 (98, ([.int .i64, .agg ((aQ.shs).set 0 (.row 0 [.int .i64] 3 8)), .int .i64], [])),
 (99, ([.agg (((aG.shs).set 1 (.row 0 aC.ks 139 128)).set 2 (.row 1 [.int .i64] 3 8))], [])),
 (59, ([.agg (((aG.shs).set 1 (.row 0 aC.ks 139 128)).set 2 (.row 1 [.int .i64] 3 8)), .agg ((((((aA.shs).set 11 (.row 2 aE.ks 92 32)).set 28 (.row 3 aE.ks 92 32)).set 31 (.row 4 aN.ks 75 32)).set 32 (.row 5 [.str] 9 16)).set 33 (.row 6 [.int .i64] 3 8)), .int .i64], [])),
 (33, ([.row 0 aA.ks 67 416], [(83, client_Client.shs)])),
 (79, ([.row 0 aA.ks 67 416, .row 1 aB.ks 54 112, .int .i64], [(83, client_Client.shs)])),
 (61, ([.bool], [])),
 (63, ([.row 0 [.int .i64] 3 8], [])),
 (64, ([.agg ((((((aA.shs).set 11 (.row 0 aE.ks 92 32)).set 28 (.row 1 aE.ks 92 32)).set 31 (.row 2 aN.ks 75 32)).set 32 (.row 3 [.str] 9 16)).set 33 (.row 4 [.int .i64] 3 8)), .bool], [])),
 (35, ([.agg ((aH.shs).set 0 (.row 0 [.int .i64] 3 8)), .bool, .row 1 aA.ks 67 416, .int .i64], [])),
 (80, ([.row 0 aA.ks 67 416, .row 1 aB.ks 54 112, .int .i64], [(83, client_Client.shs)])),
 (103, ([.row 0 [.int .i64] 3 8], [])),
 (60, ([.row 0 [.int .i64] 3 8], [])),
 (34, ([.agg ((aH.shs).set 0 (.row 0 [.int .i64] 3 8)), .agg ((((((aA.shs).set 11 (.row 1 aE.ks 92 32)).set 28 (.row 2 aE.ks 92 32)).set 31 (.row 3 aN.ks 75 32)).set 32 (.row 4 [.str] 9 16)).set 33 (.row 5 [.int .i64] 3 8)), .int .i64], [])),
 (81, ([.row 0 aA.ks 67 416, .row 1 aB.ks 54 112, .int .i64], [(83, client_Client.shs)])),
 (162, ([.bool], [(3, [.int .i64])])),
 (161, ([.int .i64], [(3, [.int .i64])])),
 (147, ([.int .i64], [])),
 (163, ([.agg ((aQ.shs).set 0 (.row 0 [.int .i64] 3 8)), .bool], [])),
 (164, ([.row 0 aC.ks 139 128], [])),
 (148, ([.agg (((aG.shs).set 1 (.row 0 aC.ks 139 128)).set 2 (.row 1 [.int .i64] 3 8))], [])),
 (114, ([.agg (((aG.shs).set 1 (.row 0 aC.ks 139 128)).set 2 (.row 1 [.int .i64] 3 8)), .row 2 aA.ks 67 416, .int .i64], [])),
 (82, ([.row 0 aA.ks 67 416, .row 1 aB.ks 54 112, .int .i64], [(83, client_Client.shs)])),
 (83, ([.row 0 aA.ks 67 416, .row 1 aB.ks 54 112, .int .i64], [(83, client_Client.shs)])),
 (84, ([.row 0 aA.ks 67 416, .row 1 aB.ks 54 112, .int .i64], [(83, client_Client.shs)])),
 (21, ([.row 0 aA.ks 67 416, .row 1 aB.ks 54 112, .int .i64], [(83, client_Client.shs)])),
 (32, ([.row 0 aB.ks 54 112], [])),
 (13, ([.row 0 aA.ks 67 416, .int .i64], [(83, client_Client.shs)])),
 (9, ([.bool], [])),
 (19, ([], [(83, client_Client.shs)])),
 (12, ([.agg [.ptr 0 0, .sl [.int .i64], .row 0 aA.ks 1000000000067 416, .row 1 aA.ks 1000000000067 416, .int .i64, .row 2 aB.ks 54 112], .bool], [(83, client_Client.shs)])),
 (14, ([.agg [.ptr 0 0, .sl [.int .i64], .row 0 aA.ks 1000000000067 416, .row 1 aA.ks 1000000000067 416, .int .i64, .row 2 aB.ks 54 112], .bool], [(83, client_Client.shs)])),
 (15, ([.agg [.ptr 0 0, .sl [.int .i64], .row 0 aA.ks 1000000000067 416, .row 1 aA.ks 1000000000067 416, .int .i64, .row 2 aB.ks 54 112], .bool], [(83, client_Client.shs)])),
 (16, ([.bool], [])),
 (4, ([.bool], []))]
noncomputable def mvL : List (Nat × Bool) := [(104, true), (33, true), (103, true), (164, true), (12, true), (14, true), (15, true)]
noncomputable def naL : List (Nat × List (List (Option (List CK × TypeId × Nat)))) := [(104, [[some ([.int .i64], 3, 8)], [], [some ([.int .i64], 3, 8)]]), (33, [[], [some (aA.ks, 67, 416)]]), (103, [[some ([.int .i64], 3, 8)], [], []]), (164, [[some (aC.ks, 139, 128)], [], []]), (12, [(((List.replicate 6 none).set 2 (some (aA.ks, 1000000000067, 416))).set 3 (some (aA.ks, 1000000000067, 416))).set 5 (some (aB.ks, 54, 112))]), (14, [(((List.replicate 6 none).set 2 (some (aA.ks, 1000000000067, 416))).set 3 (some (aA.ks, 1000000000067, 416))).set 5 (some (aB.ks, 54, 112))]), (15, [(((List.replicate 6 none).set 2 (some (aA.ks, 1000000000067, 416))).set 3 (some (aA.ks, 1000000000067, 416))).set 5 (some (aB.ks, 54, 112))])]
noncomputable def hlL : List (Nat × List (Nat × Hint)) := [(26, [(4, ⟨[(15, .it 4000)], [], []⟩)]),
 (107, [(4, ⟨[(3, .ptr 1000000000 0), (71, .sl aE.ks), (72, .int .i64), (73, .int .i64)], [(54, aB.shs)], []⟩)]),
 (108, [(4, ⟨[(1, .sl aN.ks), (12, .sl aN.ks), (13, .int .i64), (14, .int .i64)], [], []⟩)]),
 (109, [(4, ⟨[(1, .sl [.str]), (12, .sl [.str]), (13, .int .i64), (14, .int .i64)], [], []⟩)]),
 (110, [(4, ⟨[(1, .sl [.int .i64]), (12, .sl [.int .i64]), (13, .int .i64), (14, .int .i64)], [], []⟩)]),
 (95, [(5, ⟨[(3, .int .i64), (15, .it 4000)], [], []⟩)]),
 (56, [(4, ⟨[(9, .it 4000)], [], []⟩)]),
 (96, [(4, ⟨[(0, .str), (3, .int .i64)], [], []⟩)]),
 (58, [(4, ⟨[(0, .sl aE.ks), (8, .sl aE.ks), (9, .int .i64), (10, .int .i64)], [], []⟩)]),
 (181, [(6, ⟨[(0, .str), (1, .str), (5, .int .i64)], [], []⟩)]),
 (175, [(11, ⟨[(0, .str), (1, .str), (2, .int .i64), (3, .int .i64), (9, .row 3009 [.str] 9 16), (10, .int .i64)], [], []⟩)]),
 (144, [(6, ⟨[(3, .sl [.str]), (4, .bool), (15, .sl [.str]), (16, .int .i64), (17, .int .i64)], [], []⟩), (9, ⟨[(3, .sl [.str]), (4, .bool), (5, .int .i64), (6, .str), (15, .sl [.str]), (16, .int .i64), (17, .int .i64), (23, .it 4000)], [], []⟩)]),
 (75, [(5, ⟨[(18, .sl aN.ks), (19, .int .i64), (20, .int .i64)], [], []⟩)]),
 (76, [(5, ⟨[(16, .sl [.int .i64]), (17, .int .i64), (18, .int .i64)], [], []⟩)]),
 (77, [(5, ⟨[(18, .sl [.str]), (19, .int .i64), (20, .int .i64)], [], []⟩)]),
 (113, [(3, ⟨[(1, .ptr 1000000000 0), (3, .row 3003 aA.ks 67 416), (9, .int .i64), (10, .int .i64)], [(31, aG.shs)], []⟩)]),
 (102, [(3, ⟨[(0, .sl [.int .i64]), (1, .int .i64), (6, .int .i64), (7, .int .i64), (8, .int .i64)], [], []⟩)]),
 (98, [(5, ⟨[(1, .ptr 1000000000 0), (3, .ptr 1000000001 0), (5, .int .i64), (18, .int .i64), (19, .int .i64)], [(29, aQ.shs), (29, aQ.shs)], []⟩)]),
 (99, [(3, ⟨[(1, .ptr 1000000000 0), (2, .ptr 1000000001 0), (3, .row 3003 aC.ks 139 128), (12, .sl aC.ks), (13, .int .i64), (14, .int .i64)], [(31, aG.shs), (31, aG.shs)], []⟩)]),
 (33, [(1, ⟨[(0, .ptr 2000000000 0), (1, .row 3001 aA.ks 67 416)], [], [(83, client_Client.shs)]⟩)]),
 (79, [(9, ⟨[(0, .ptr 2000000000 0), (7, .row 3007 aB.ks 54 112), (32, .sl aC.ks), (33, .int .i64), (34, .int .i64)], [], [(83, client_Client.shs)]⟩)]),
 (161, [(2, ⟨[(0, .sl aC.ks), (1, .fn 162 [] [.ptr 2000000000 0]), (7, .int .i64), (8, .int .i64)], [], [(3, [.int .i64])]⟩)]),
 (16, [(2, ⟨[(0, .sl aB.ks), (3, .int .i64)], [], []⟩)]),
 (4, [(8, ⟨[(1, .sl aD.ks), (5, .ptr 1000000000 0), (7, .ptr 1000000001 0), (8, .bool), (9, .int .i64)], [(83, client_Client.shs), (45, [.ptr 1000000000 0, .sl [.int .i64], .row 50102 aA.ks 1000000000067 416, .row 50103 aA.ks 1000000000067 416, .int .i64, .row 50105 aB.ks 54 112])], []⟩), (25, ⟨[(1, .sl aD.ks), (5, .ptr 1000000000 0), (7, .ptr 1000000001 0), (8, .bool), (12, .int .i64)], [(83, client_Client.shs), (45, [.ptr 1000000000 0, .sl [.int .i64], .row 50102 aA.ks 1000000000067 416, .row 50103 aA.ks 1000000000067 416, .int .i64, .row 50105 aB.ks 54 112])], []⟩)])]
noncomputable def hrL : List (Nat × List (Nat × Hint)) := [(26, [(3, ⟨[(0, .str)], [], []⟩), (7, ⟨[(3, .int .i64), (4, .int .i32), (5, .bool), (15, .it 4000)], [], []⟩)]),
 (107, [(3, ⟨[(2, .ptr 1000000000 0), (3, .ptr 1000000001 0)], [(54, aB.shs), (54, aB.shs)], []⟩)]),
 (95, [(3, ⟨[(0, .str)], [], []⟩)]),
 (96, [(3, ⟨[(0, .str)], [], []⟩)]),
 (175, [(7, ⟨[(0, .str), (1, .str), (2, .int .i64), (3, .int .i64)], [], []⟩), (17, ⟨[(0, .str), (9, .row 3009 [.str] 9 16), (10, .int .i64)], [], []⟩)]),
 (33, [(2, ⟨[(0, .ptr 2000000000 0), (1, .row 3001 aA.ks 67 416), (15, .ptr 2000000000 0), (16, .ptr 2000000000 0), (17, .ptr 2000000000 7), (18, .sl aB.ks), (19, .int .i64), (20, .bool)], [], [(83, client_Client.shs)]⟩), (9, ⟨[(0, .ptr 2000000000 0), (1, .row 3001 aA.ks 67 416), (15, .ptr 2000000000 0), (16, .ptr 2000000000 0), (17, .ptr 2000000000 7), (18, .sl aB.ks), (19, .int .i64), (20, .bool)], [], [(83, client_Client.shs)]⟩)]),
 (35, [(7, ⟨[(2, .ptr 1000000000 0), (3, .ptr 1000000001 0), (4, .ptr 1000000002 0), (9, .bool)], [(33, aH.shs), (67, aA.shs), (33, aH.shs)], []⟩), (9, ⟨[(2, .ptr 1000000000 0), (3, .ptr 1000000001 0), (4, .ptr 1000000002 0), (9, .bool)], [(33, aH.shs), (67, aA.shs), (33, aH.shs)], []⟩), (12, ⟨[(3, .ptr 1000000000 0), (4, .ptr 1000000001 0), (9, .bool), (10, .ptr 1000000002 0)], [(67, aA.shs), (33, aH.shs), (33, [.row 50200 [.int .i64] 3 8])], []⟩)]),
 (34, [(5, ⟨[(2, .ptr 1000000000 0), (3, .ptr 1000000001 0), (4, .ptr 1000000002 0), (5, .ptr 1000000003 0)], [(33, aH.shs), (67, aA.shs), (33, aH.shs), (67, aA.shs)], []⟩)]),
 (114, [(5, ⟨[(2, .ptr 1000000000 0), (3, .ptr 1000000001 0), (4, .ptr 1000000002 0), (7, .int .i64), (8, .ptr 1000000003 0)], [(31, aG.shs), (67, aA.shs), (31, aG.shs), (139, aC.shs)], []⟩)]),
 (21, [(7, ⟨[(0, .ptr 2000000000 0), (3, .ptr 1000000000 0), (8, .bool)], [(67, aA.shs)], [(83, client_Client.shs)]⟩), (9, ⟨[(0, .ptr 2000000000 0), (3, .ptr 1000000000 0)], [(67, aA.shs)], [(83, client_Client.shs)]⟩)]),
 (9, [(4, ⟨[(1, .ptr 1000000000 0)], [(83, client_Client.shs)], []⟩), (7, ⟨[(1, .ptr 1000000000 0)], [(83, client_Client.shs)], []⟩), (10, ⟨[(1, .ptr 1000000000 0)], [(83, client_Client.shs)], []⟩), (15, ⟨[(1, .ptr 1000000000 0)], [(83, client_Client.shs)], []⟩)]),
 (12, [(5, ⟨[(1, .ptr 1000000000 0), (2, .ptr 1000000001 0)], [(45, [.ptr 2000000000 0, .sl [.int .i64], .row 50002 aA.ks 1000000000067 416, .row 50003 aA.ks 1000000000067 416, .int .i64, .row 50005 aB.ks 54 112]), (45, [.any, .sl [.int .i64], .sl aA.ks, .sl aA.ks, .int .i64, .sl aB.ks])], [(83, client_Client.shs)]⟩)]),
 (4, [(3, ⟨[(0, .int .i64), (1, .sl aD.ks)], [], []⟩), (6, ⟨[(1, .sl aD.ks), (5, .ptr 1000000000 0)], [(83, client_Client.shs)], []⟩), (10, ⟨[(1, .sl aD.ks), (5, .ptr 1000000000 0), (7, .ptr 1000000001 0), (8, .bool), (9, .int .i64), (44, .int .i64), (45, .sl aD.ks), (46, .int .i64), (47, .bool)], [(83, client_Client.shs), (45, [.ptr 1000000000 0, .sl [.int .i64], .row 50102 aA.ks 1000000000067 416, .row 50103 aA.ks 1000000000067 416, .int .i64, .row 50105 aB.ks 54 112])], []⟩), (24, ⟨[(1, .sl aD.ks), (5, .ptr 1000000000 0), (7, .ptr 1000000001 0), (8, .bool)], [(83, client_Client.shs), (45, [.ptr 1000000000 0, .sl [.int .i64], .row 50102 aA.ks 1000000000067 416, .row 50103 aA.ks 1000000000067 416, .int .i64, .row 50105 aB.ks 54 112])], []⟩), (23, ⟨[(1, .sl aD.ks), (5, .ptr 1000000000 0), (7, .ptr 1000000001 0), (8, .bool), (9, .int .i64), (44, .int .i64), (45, .sl aD.ks), (46, .int .i64), (47, .bool)], [(83, client_Client.shs), (45, [.ptr 1000000000 0, .sl [.int .i64], .row 50102 aA.ks 1000000000067 416, .row 50103 aA.ks 1000000000067 416, .int .i64, .row 50105 aB.ks 54 112])], []⟩), (27, ⟨[(1, .sl aD.ks), (5, .ptr 1000000000 0), (7, .ptr 1000000001 0), (12, .int .i64), (137, .int .i64), (138, .sl aD.ks), (139, .int .i64), (140, .int .i64), (141, .int .i64), (142, .bool)], [(83, client_Client.shs), (45, [.ptr 1000000000 0, .sl [.int .i64], .row 50102 aA.ks 1000000000067 416, .row 50103 aA.ks 1000000000067 416, .int .i64, .row 50105 aB.ks 54 112])], []⟩), (30, ⟨[(5, .ptr 1000000000 0), (7, .ptr 1000000001 0), (8, .bool)], [(83, client_Client.shs), (45, [.ptr 1000000000 0, .sl [.int .i64], .row 50102 aA.ks 1000000000067 416, .row 50103 aA.ks 1000000000067 416, .int .i64, .row 50105 aB.ks 54 112])], []⟩)])]
noncomputable def eqL : List (Nat × List CK) := [(75, [.str, .int .i64, .bool]), (92, [.str, .str]), (147, [.int .i64, .int .i64, .int .i64, .int .i64, .int .i64, .int .i64, .int .i64, .bool, .bool, .bool, .bool, .str, .str])]
noncomputable def prL : List (Nat × Prim) := [(183, .indexByte), (187, .countByte)]
noncomputable def lbL : List (Nat × LibK) := [(104, .insert [.int .i64] 3 8), (103, .spec (afJ [.int .i64] 3 8)), (164, .spec (afJ aC.ks 139 128))]
noncomputable def vrL : List (Nat × List (Nat × (List Sh × List (TypeId × List Sh)))) := [(7, [(0, ([.nilp, .int .i64], []))]), (40, [(80, ([.fn 79 [.ptr 0 0] []], [(83, client_Client.shs)])), (81, ([.fn 80 [.ptr 0 0] []], [(83, client_Client.shs)])), (82, ([.fn 81 [.ptr 0 0] []], [(83, client_Client.shs)])), (83, ([.fn 82 [.ptr 0 0] []], [(83, client_Client.shs)])), (84, ([.fn 83 [.ptr 0 0] []], [(83, client_Client.shs)])), (85, ([.fn 84 [.ptr 0 0] []], [(83, client_Client.shs)]))])]
noncomputable def pvL : List (Nat × Sh) := []
noncomputable def SE : Env := { fn := assoc fnL, ty := assoc tyL, tm := assoc tmL, mv := fun f => match assoc mvL f with | some b => b | none => false, eqt := assoc eqL, pv := assoc pvL, vr := fun f => match assoc vrL f with | some l => l | none => [], hl := fun f r => match assoc hlL f with | some l => assoc l r | none => none, hr := fun f r => match assoc hrL f with | some l => assoc l r | none => none, prim := assoc prL, lib := assoc lbL, na := fun f => match assoc naL f with | some l => l | none => [], flg := fun d t => (Nat.beq d 19 && Nat.beq t 43) || (Nat.beq d 23 && Nat.beq t 43) || (Nat.beq d 39 && Nat.beq t 43) }
def aF : (Bool) → Out := fun r => .ret [.d (.bool r)] [] []
theorem aU : ∀ y z, aF y = aF z → y = z := fun y z h => congrArg (fun o => bC (avD (dQ 0 (Out.res o)))) h
def bK : (aG) → Out := fun r => .ret [.agg (((aG.avs r).set 1 (.row 0)).set 2 (.row 1))] [] [⟨aC.ks, 139, 128, (List.map aC.enc r.Items)⟩, ⟨[.int .i64], 3, 8, (List.map (encI .i64) r.Pool.Used)⟩]
theorem j5 : ∀ y z, bK y = bK z → y = z := fun y z h => aG.inj (congrArg (fun o => List.map (avR (Out.rws o)) (cellsOf (dQ 0 (Out.res o)))) h)
def sY : (Int) → Out := fun r => .ret [.nilp, .d (.int .i64 r)] [] []
theorem aex : ∀ y z, sY y = sY z → y = z := fun y z h => congrArg (fun o => aM (avD (dQ 1 (Out.res o)))) h
def tH : (Int × client_Client) → Out := fun r => .ret [.ptr 0 0, .d (.int .i64 r.1)] [⟨83, (client_Client.avs r.2)⟩] []
theorem ad5 : ∀ y z, tH y = tH z → y = z := fun y z h => Prod.ext (congrArg (fun o => aM (avD (dQ 1 (Out.res o)))) h) (client_Client.inj (congrArg (fun o => List.map avD (pT 0 (Out.bxs o))) h))
def lO : (((Int) ⊕ (Int × client_Client))) → Out := (vU sY tH)
theorem aaH : ∀ y z, lO y = lO z → y = z := (qJ (k := (some 0)) aex ad5 (fun _ => rfl) (fun _ => (by decide : ¬ (none : Option Nat) = (some 0))))
def eJ : (Bool × client_Client) → Out := fun r => .ret [.d (.bool r.1)] [⟨83, (client_Client.avs r.2)⟩] []
theorem n5 : ∀ y z, eJ y = eJ z → y = z := fun y z h => Prod.ext (congrArg (fun o => bC (avD (dQ 0 (Out.res o)))) h) (client_Client.inj (congrArg (fun o => List.map avD (pT 0 (Out.bxs o))) h))
def cM : (Int × client_Client) → Out := fun r => .ret [.d (.int .i64 r.1)] [⟨83, (client_Client.avs r.2)⟩] []
theorem fZ : ∀ y z, cM y = cM z → y = z := fun y z h => Prod.ext (congrArg (fun o => aM (avD (dQ 0 (Out.res o)))) h) (client_Client.inj (congrArg (fun o => List.map avD (pT 0 (Out.bxs o))) h))
def bV : ((List aE)) → Out := fun r => .ret [.row 0] [] [⟨aE.ks, 92, 32, (List.map aE.enc r)⟩]
theorem j9 : ∀ y z, bV y = bV z → y = z := fun y z h => map_inj aE.inj (congrArg (fun o => qY 0 (Out.rws o)) h)
def cH : (aB) → Out := fun r => .ret [.agg ((aB.avs r).set 8 (.row 0))] [] [⟨aE.ks, 92, 32, (List.map aE.enc r.Props)⟩]
theorem fS : ∀ y z, cH y = cH z → y = z := fun y z h => aB.inj (congrArg (fun o => List.map (avR (Out.rws o)) (cellsOf (dQ 0 (Out.res o)))) h)
def cD : (aA) → Out := fun r => .ret [aA.av r] [] []
theorem aeg : ∀ y z, cD y = cD z → y = z := fun y z h => aA.inj (congrArg (fun o => List.map avD (cellsOf (dQ 0 (Out.res o)))) h)
def iH : (bE) → Out := fun r => .ret [bE.av r] [] []
theorem abE : ∀ y z, iH y = iH z → y = z := fun y z h => bE.inj (congrArg (fun o => List.map avD (cellsOf (dQ 0 (Out.res o)))) h)
def aJ : (Int) → Out := fun r => .ret [.d (.int .i64 r)] [] []
theorem bA : ∀ y z, aJ y = aJ z → y = z := fun y z h => congrArg (fun o => aM (avD (dQ 0 (Out.res o)))) h
def dG : (Str × Bool) → Out := fun r => .ret [.d (.str r.1), .d (.bool r.2)] [] []
theorem pE : ∀ y z, dG y = dG z → y = z := fun y z h => Prod.ext (congrArg (fun o => aX (avD (dQ 0 (Out.res o)))) h) (congrArg (fun o => bC (avD (dQ 1 (Out.res o)))) h)
def bL : (Str × Str × Bool) → Out := fun r => .ret [.d (.str r.1), .d (.str r.2.1), .d (.bool r.2.2)] [] []
theorem o8 : ∀ y z, bL y = bL z → y = z := fun y z h => Prod.ext (congrArg (fun o => aX (avD (dQ 0 (Out.res o)))) h) (Prod.ext (congrArg (fun o => aX (avD (dQ 1 (Out.res o)))) h) (congrArg (fun o => bC (avD (dQ 2 (Out.res o)))) h))
def bP : ((List Str)) → Out := fun r => .ret [.d (.sl [.str] (List.map bM r))] [] []
theorem oB : ∀ y z, bP y = bP z → y = z := fun y z h => map_inj ah8 (congrArg (fun o => dSl (avD (dQ 0 (Out.res o)))) h)
def jN : (Bool × Bool) → Out := fun r => .ret [.d (.bool r.1), .d (.bool r.2)] [] []
theorem wG : ∀ y z, jN y = jN z → y = z := fun y z h => Prod.ext (congrArg (fun o => bC (avD (dQ 0 (Out.res o)))) h) (congrArg (fun o => bC (avD (dQ 1 (Out.res o)))) h)
def aZ : ((List aA) × Int × client_Client) → Out := fun r => .ret [.row 0, .d (.int .i64 r.2.1)] [⟨83, (client_Client.avs r.2.2)⟩] [⟨aA.ks, 67, 416, (List.map aA.enc r.1)⟩]
theorem eZ : ∀ y z, aZ y = aZ z → y = z := fun y z h => Prod.ext (map_inj aA.inj (congrArg (fun o => qY 0 (Out.rws o)) h)) (Prod.ext (congrArg (fun o => aM (avD (dQ 1 (Out.res o)))) h) (client_Client.inj (congrArg (fun o => List.map avD (pT 0 (Out.bxs o))) h)))
def iP : (client_Client) → Out := fun r => .ret [.fn 79 [.ptr 0 0] []] [⟨83, (client_Client.avs r)⟩] []
theorem sQ : ∀ y z, iP y = iP z → y = z := fun y z h => client_Client.inj (congrArg (fun o => List.map avD (pT 0 (Out.bxs o))) h)
def iT : (client_Client) → Out := fun r => .ret [.fn 80 [.ptr 0 0] []] [⟨83, (client_Client.avs r)⟩] []
theorem sU : ∀ y z, iT y = iT z → y = z := fun y z h => client_Client.inj (congrArg (fun o => List.map avD (pT 0 (Out.bxs o))) h)
def iU : (client_Client) → Out := fun r => .ret [.fn 81 [.ptr 0 0] []] [⟨83, (client_Client.avs r)⟩] []
theorem sO : ∀ y z, iU y = iU z → y = z := fun y z h => client_Client.inj (congrArg (fun o => List.map avD (pT 0 (Out.bxs o))) h)
def iV : (client_Client) → Out := fun r => .ret [.fn 82 [.ptr 0 0] []] [⟨83, (client_Client.avs r)⟩] []
theorem sP : ∀ y z, iV y = iV z → y = z := fun y z h => client_Client.inj (congrArg (fun o => List.map avD (pT 0 (Out.bxs o))) h)
def iS : (client_Client) → Out := fun r => .ret [.fn 83 [.ptr 0 0] []] [⟨83, (client_Client.avs r)⟩] []
theorem sN : ∀ y z, iS y = iS z → y = z := fun y z h => client_Client.inj (congrArg (fun o => List.map avD (pT 0 (Out.bxs o))) h)
def iO : (client_Client) → Out := fun r => .ret [.fn 84 [.ptr 0 0] []] [⟨83, (client_Client.avs r)⟩] []
theorem sR : ∀ y z, iO y = iO z → y = z := fun y z h => client_Client.inj (congrArg (fun o => List.map avD (pT 0 (Out.bxs o))) h)
def dN : (((client_Client) ⊕ ((client_Client) ⊕ ((client_Client) ⊕ ((client_Client) ⊕ ((client_Client) ⊕ (client_Client))))))) → Out := (vU iP (vU iT (vU iU (vU iV (vU iS iO)))))
theorem tO : ∀ y z, dN y = dN z → y = z := (qJ (k := (some 80)) sQ (qJ (k := (some 81)) sU (qJ (k := (some 82)) sO (qJ (k := (some 83)) sP (qJ (k := (some 84)) sN sR (fun _ => rfl) (fun _ => (by decide : ¬ ((some 85) : Option Nat) = (some 84)))) (fun _ => rfl) ((oW (fun _ => (by decide : ¬ ((some 84) : Option Nat) = (some 83))) (fun _ => (by decide : ¬ ((some 85) : Option Nat) = (some 83)))))) (fun _ => rfl) ((oW (fun _ => (by decide : ¬ ((some 83) : Option Nat) = (some 82))) ((oW (fun _ => (by decide : ¬ ((some 84) : Option Nat) = (some 82))) (fun _ => (by decide : ¬ ((some 85) : Option Nat) = (some 82)))))))) (fun _ => rfl) ((oW (fun _ => (by decide : ¬ ((some 82) : Option Nat) = (some 81))) ((oW (fun _ => (by decide : ¬ ((some 83) : Option Nat) = (some 81))) ((oW (fun _ => (by decide : ¬ ((some 84) : Option Nat) = (some 81))) (fun _ => (by decide : ¬ ((some 85) : Option Nat) = (some 81)))))))))) (fun _ => rfl) ((oW (fun _ => (by decide : ¬ ((some 81) : Option Nat) = (some 80))) ((oW (fun _ => (by decide : ¬ ((some 82) : Option Nat) = (some 80))) ((oW (fun _ => (by decide : ¬ ((some 83) : Option Nat) = (some 80))) ((oW (fun _ => (by decide : ¬ ((some 84) : Option Nat) = (some 80))) (fun _ => (by decide : ¬ ((some 85) : Option Nat) = (some 80))))))))))))
def cP : (aA) → Out := fun r => .ret [.agg ((((((aA.avs r).set 11 (.row 0)).set 28 (.row 1)).set 31 (.row 2)).set 32 (.row 3)).set 33 (.row 4))] [] [⟨aE.ks, 92, 32, (List.map aE.enc r.Message.Props)⟩, ⟨aE.ks, 92, 32, (List.map aE.enc r.Will.Message.Props)⟩, ⟨aN.ks, 75, 32, (List.map aN.enc r.Subs)⟩, ⟨[.str], 9, 16, (List.map bM r.Filters)⟩, ⟨[.int .i64], 3, 8, (List.map (encI .i64) r.Codes)⟩]
theorem l7 : ∀ y z, cP y = cP z → y = z := fun y z h => aA.inj (congrArg (fun o => List.map (avR (Out.rws o)) (cellsOf (dQ 0 (Out.res o)))) h)
def eY : ((List aA)) → Out := fun r => .ret [.row 0] [] [⟨aA.ks, 67, 416, (List.map aA.enc r)⟩]
theorem abB : ∀ y z, eY y = eY z → y = z := fun y z h => map_inj aA.inj (congrArg (fun o => qY 0 (Out.rws o)) h)
def bI : (Int × Bool) → Out := fun r => .ret [.d (.int .i64 r.1), .d (.bool r.2)] [] []
theorem dV : ∀ y z, bI y = bI z → y = z := fun y z h => Prod.ext (congrArg (fun o => aM (avD (dQ 0 (Out.res o)))) h) (congrArg (fun o => bC (avD (dQ 1 (Out.res o)))) h)
def aR : ((List Int)) → Out := fun r => .ret [.row 0] [] [⟨[.int .i64], 3, 8, (List.map (encI .i64) r)⟩]
theorem bN : ∀ y z, aR y = aR z → y = z := fun y z h => map_inj (aa2 _) (congrArg (fun o => qY 0 (Out.rws o)) h)
def fM : (Int × aQ × Int) → Out := fun r => .ret [.d (.int .i64 r.1), .agg ((aQ.avs r.2.1).set 0 (.row 0)), .d (.int .i64 r.2.2)] [] [⟨[.int .i64], 3, 8, (List.map (encI .i64) r.2.1.Used)⟩]
theorem afN : ∀ y z, fM y = fM z → y = z := fun y z h => Prod.ext (congrArg (fun o => aM (avD (dQ 0 (Out.res o)))) h) (Prod.ext (aQ.inj (congrArg (fun o => List.map (avR (Out.rws o)) (cellsOf (dQ 1 (Out.res o)))) h)) (congrArg (fun o => aM (avD (dQ 2 (Out.res o)))) h))
def dZ : (aG × aA × Int) → Out := fun r => .ret [.agg (((aG.avs r.1).set 1 (.row 0)).set 2 (.row 1)), .agg ((((((aA.avs r.2.1).set 11 (.row 2)).set 28 (.row 3)).set 31 (.row 4)).set 32 (.row 5)).set 33 (.row 6)), .d (.int .i64 r.2.2)] [] [⟨aC.ks, 139, 128, (List.map aC.enc r.1.Items)⟩, ⟨[.int .i64], 3, 8, (List.map (encI .i64) r.1.Pool.Used)⟩, ⟨aE.ks, 92, 32, (List.map aE.enc r.2.1.Message.Props)⟩, ⟨aE.ks, 92, 32, (List.map aE.enc r.2.1.Will.Message.Props)⟩, ⟨aN.ks, 75, 32, (List.map aN.enc r.2.1.Subs)⟩, ⟨[.str], 9, 16, (List.map bM r.2.1.Filters)⟩, ⟨[.int .i64], 3, 8, (List.map (encI .i64) r.2.1.Codes)⟩]
theorem ab3 : ∀ y z, dZ y = dZ z → y = z := fun y z h => Prod.ext (aG.inj (congrArg (fun o => List.map (avR (Out.rws o)) (cellsOf (dQ 0 (Out.res o)))) h)) (Prod.ext (aA.inj (congrArg (fun o => List.map (avR (Out.rws o)) (cellsOf (dQ 1 (Out.res o)))) h)) (congrArg (fun o => aM (avD (dQ 2 (Out.res o)))) h))
def bB : ((List aA) × client_Client) → Out := fun r => .ret [.row 0] [⟨83, (client_Client.avs r.2)⟩] [⟨aA.ks, 67, 416, (List.map aA.enc r.1)⟩]
theorem g7 : ∀ y z, bB y = bB z → y = z := fun y z h => Prod.ext (map_inj aA.inj (congrArg (fun o => qY 0 (Out.rws o)) h)) (client_Client.inj (congrArg (fun o => List.map avD (pT 0 (Out.bxs o))) h))
def aI : ((List aA) × (List aB) × Int × client_Client) → Out := fun r => .ret [.row 0, .row 1, .d (.int .i64 r.2.2.1)] [⟨83, (client_Client.avs r.2.2.2)⟩] [⟨aA.ks, 67, 416, (List.map aA.enc r.1)⟩, ⟨aB.ks, 54, 112, (List.map aB.enc r.2.1)⟩]
theorem cB : ∀ y z, aI y = aI z → y = z := fun y z h => Prod.ext (map_inj aA.inj (congrArg (fun o => qY 0 (Out.rws o)) h)) (Prod.ext (map_inj aB.inj (congrArg (fun o => qY 1 (Out.rws o)) h)) (Prod.ext (congrArg (fun o => aM (avD (dQ 2 (Out.res o)))) h) (client_Client.inj (congrArg (fun o => List.map avD (pT 0 (Out.bxs o))) h))))
def bF : (aA × Bool) → Out := fun r => .ret [.agg ((((((aA.avs r.1).set 11 (.row 0)).set 28 (.row 1)).set 31 (.row 2)).set 32 (.row 3)).set 33 (.row 4)), .d (.bool r.2)] [] [⟨aE.ks, 92, 32, (List.map aE.enc r.1.Message.Props)⟩, ⟨aE.ks, 92, 32, (List.map aE.enc r.1.Will.Message.Props)⟩, ⟨aN.ks, 75, 32, (List.map aN.enc r.1.Subs)⟩, ⟨[.str], 9, 16, (List.map bM r.1.Filters)⟩, ⟨[.int .i64], 3, 8, (List.map (encI .i64) r.1.Codes)⟩]
theorem acY : ∀ y z, bF y = bF z → y = z := fun y z h => Prod.ext (aA.inj (congrArg (fun o => List.map (avR (Out.rws o)) (cellsOf (dQ 0 (Out.res o)))) h)) (congrArg (fun o => bC (avD (dQ 1 (Out.res o)))) h)
def cN : (aH × Bool × (List aA) × Int) → Out := fun r => .ret [.agg ((aH.avs r.1).set 0 (.row 0)), .d (.bool r.2.1), .row 1, .d (.int .i64 r.2.2.2)] [] [⟨[.int .i64], 3, 8, (List.map (encI .i64) r.1.IDs)⟩, ⟨aA.ks, 67, 416, (List.map aA.enc r.2.2.1)⟩]
theorem vW : ∀ y z, cN y = cN z → y = z := fun y z h => Prod.ext (aH.inj (congrArg (fun o => List.map (avR (Out.rws o)) (cellsOf (dQ 0 (Out.res o)))) h)) (Prod.ext (congrArg (fun o => bC (avD (dQ 1 (Out.res o)))) h) (Prod.ext (map_inj aA.inj (congrArg (fun o => qY 1 (Out.rws o)) h)) (congrArg (fun o => aM (avD (dQ 3 (Out.res o)))) h)))
def cW : (aH × aA × Int) → Out := fun r => .ret [.agg ((aH.avs r.1).set 0 (.row 0)), .agg ((((((aA.avs r.2.1).set 11 (.row 1)).set 28 (.row 2)).set 31 (.row 3)).set 32 (.row 4)).set 33 (.row 5)), .d (.int .i64 r.2.2)] [] [⟨[.int .i64], 3, 8, (List.map (encI .i64) r.1.IDs)⟩, ⟨aE.ks, 92, 32, (List.map aE.enc r.2.1.Message.Props)⟩, ⟨aE.ks, 92, 32, (List.map aE.enc r.2.1.Will.Message.Props)⟩, ⟨aN.ks, 75, 32, (List.map aN.enc r.2.1.Subs)⟩, ⟨[.str], 9, 16, (List.map bM r.2.1.Filters)⟩, ⟨[.int .i64], 3, 8, (List.map (encI .i64) r.2.1.Codes)⟩]
theorem uC : ∀ y z, cW y = cW z → y = z := fun y z h => Prod.ext (aH.inj (congrArg (fun o => List.map (avR (Out.rws o)) (cellsOf (dQ 0 (Out.res o)))) h)) (Prod.ext (aA.inj (congrArg (fun o => List.map (avR (Out.rws o)) (cellsOf (dQ 1 (Out.res o)))) h)) (congrArg (fun o => aM (avD (dQ 2 (Out.res o)))) h))
def gY : (Bool × Int) → Out := fun r => .ret [.d (.bool r.1)] [⟨3, [.d (.int .i64 r.2)]⟩] []
theorem abA : ∀ y z, gY y = gY z → y = z := fun y z h => Prod.ext (congrArg (fun o => bC (avD (dQ 0 (Out.res o)))) h) (congrArg (fun o => aM (avD (dQ 0 (pT 0 (Out.bxs o))))) h)
def bZ : (Int × Int) → Out := fun r => .ret [.d (.int .i64 r.1)] [⟨3, [.d (.int .i64 r.2)]⟩] []
theorem mR : ∀ y z, bZ y = bZ z → y = z := fun y z h => Prod.ext (congrArg (fun o => aM (avD (dQ 0 (Out.res o)))) h) (congrArg (fun o => aM (avD (dQ 0 (pT 0 (Out.bxs o))))) h)
def j4 : (aQ × Bool) → Out := fun r => .ret [.agg ((aQ.avs r.1).set 0 (.row 0)), .d (.bool r.2)] [] [⟨[.int .i64], 3, 8, (List.map (encI .i64) r.1.Used)⟩]
theorem afw : ∀ y z, j4 y = j4 z → y = z := fun y z h => Prod.ext (aQ.inj (congrArg (fun o => List.map (avR (Out.rws o)) (cellsOf (dQ 0 (Out.res o)))) h)) (congrArg (fun o => bC (avD (dQ 1 (Out.res o)))) h)
def cT : ((List aC)) → Out := fun r => .ret [.row 0] [] [⟨aC.ks, 139, 128, (List.map aC.enc r)⟩]
theorem nI : ∀ y z, cT y = cT z → y = z := fun y z h => map_inj aC.inj (congrArg (fun o => qY 0 (Out.rws o)) h)
def bY : (aG × (List aA) × Int) → Out := fun r => .ret [.agg (((aG.avs r.1).set 1 (.row 0)).set 2 (.row 1)), .row 2, .d (.int .i64 r.2.2)] [] [⟨aC.ks, 139, 128, (List.map aC.enc r.1.Items)⟩, ⟨[.int .i64], 3, 8, (List.map (encI .i64) r.1.Pool.Used)⟩, ⟨aA.ks, 67, 416, (List.map aA.enc r.2.1)⟩]
theorem aby : ∀ y z, bY y = bY z → y = z := fun y z h => Prod.ext (aG.inj (congrArg (fun o => List.map (avR (Out.rws o)) (cellsOf (dQ 0 (Out.res o)))) h)) (Prod.ext (map_inj aA.inj (congrArg (fun o => qY 2 (Out.rws o)) h)) (congrArg (fun o => aM (avD (dQ 2 (Out.res o)))) h))
def bT : ((List aB)) → Out := fun r => .ret [.row 0] [] [⟨aB.ks, 54, 112, (List.map aB.enc r)⟩]
theorem m8 : ∀ y z, bT y = bT z → y = z := fun y z h => map_inj aB.inj (congrArg (fun o => qY 0 (Out.rws o)) h)
def fY : (client_Client) → Out := fun r => .ret [] [⟨83, (client_Client.avs r)⟩] []
theorem wS : ∀ y z, fY y = fY z → y = z := fun y z h => client_Client.inj (congrArg (fun o => List.map avD (pT 0 (Out.bxs o))) h)
def bG : (aH × (List aA) × (List aA) × Int × (List aB) × Bool × client_Client) → Out := fun r => .ret [.agg [.ptr 0 0, .d (.sl [.int .i64] (List.map (encI .i64) r.1.IDs)), .row 0, .row 1, .d (.int .i64 r.2.2.2.1), .row 2], .d (.bool r.2.2.2.2.2.1)] [⟨83, (client_Client.avs r.2.2.2.2.2.2)⟩] [⟨aA.ks, 1000000000067, 416, (List.map aA.enc r.2.1)⟩, ⟨aA.ks, 1000000000067, 416, (List.map aA.enc r.2.2.1)⟩, ⟨aB.ks, 54, 112, (List.map aB.enc r.2.2.2.2.1)⟩]
theorem gK : ∀ y z, bG y = bG z → y = z := fun y z h => Prod.ext (aH.inj (congrArg (fun o => [avD (dQ 1 (cellsOf (dQ 0 (Out.res o))))]) h)) (Prod.ext (map_inj aA.inj (congrArg (fun o => qY 0 (Out.rws o)) h)) (Prod.ext (map_inj aA.inj (congrArg (fun o => qY 1 (Out.rws o)) h)) (Prod.ext (congrArg (fun o => aM (avD (dQ 4 (cellsOf (dQ 0 (Out.res o)))))) h) (Prod.ext (map_inj aB.inj (congrArg (fun o => qY 2 (Out.rws o)) h)) (Prod.ext (congrArg (fun o => bC (avD (dQ 1 (Out.res o)))) h) (client_Client.inj (congrArg (fun o => List.map avD (pT 0 (Out.bxs o))) h)))))))
noncomputable def oL : List (Nat × v8) := [(26, .one aF), (27, .one bK), (7, .two lO), (10, .one eJ), (11, .one cM), (55, .one bV), (30, .one cH), (68, .one aF), (70, .one cD), (106, .one iH), (107, .one aF), (108, .one aF), (109, .one aF), (110, .one aF), (69, .one aF), (95, .one aF), (56, .one aF), (57, .one aF), (96, .one aF), (58, .one aJ), (31, .one aJ), (71, .one aJ), (72, .one aF), (74, .one aJ), (73, .one aJ), (111, .one aJ), (160, .one aF), (171, .one dG), (157, .one dG), (176, .one aJ), (174, .one aJ), (172, .one bL), (158, .one bL), (182, .one aJ), (181, .one aJ), (175, .one bP), (173, .one bP), (159, .one bP), (144, .one aF), (145, .one aF), (143, .one bL), (112, .one jN), (75, .one aJ), (76, .one aJ), (77, .one aJ), (38, .one aJ), (20, .one aZ), (78, .one aF), (39, .one aF), (40, .six dN), (146, .one cP), (100, .one cH), (101, .one cP), (113, .one eY), (97, .one aJ), (138, .one aJ), (155, .one aF), (139, .one aF), (140, .one aF), (102, .one bI), (62, .one aR), (104, .one aR), (98, .one fM), (99, .one bK), (59, .one dZ), (33, .one bB), (79, .one aI), (61, .one aF), (63, .one aR), (64, .one bF), (35, .one cN), (80, .one aI), (103, .one aR), (60, .one aR), (34, .one cW), (81, .one aI), (162, .one gY), (161, .one bZ), (147, .one aJ), (163, .one j4), (164, .one cT), (148, .one bK), (114, .one bY), (82, .one aI), (83, .one aI), (84, .one aI), (21, .one aI), (32, .one bT), (13, .one aZ), (9, .one aF), (19, .one fY), (12, .one bG), (14, .one bG), (15, .one bG), (16, .one aF), (4, .one aF)]
def good : FuncId → Out → Prop := vQ oL
noncomputable def K (κ : Tau) : kN := alg oL κ
noncomputable abbrev kF (f : FuncId) : Tau := xM SE good f
theorem Kr (f : FuncId) : K (kF f) = fF (gM SE good) := akW oL f
noncomputable abbrev bdy (κ : Tau) (f : FuncId) (a : List AV) (b : List Bx) (r : List Rw) : Res := ajf SE K κ f a b r
theorem cK {f nb p st} {x : Res} {t : Tau → Res} (h : ∀ κ, ahL SE (K κ) κ.Λ κ.J f nb p st = t κ) (h2 : Le x (t (kF f))) : Le x (lab SE (K (kF f)) (kF f).Λ (kF f).J f nb p st) := am4 (Kr f) (h _) h2
theorem bD {f a b r} {x : Res} {t : Tau → Res} (h : ∀ κ, bdy κ f a b r = t κ) (h2 : Le x (t (kF f))) (hlib : SE.lib f = none := by rfl) : Le x (aV SE f a b r) := amf (Kr f) hlib (h _) h2
theorem lQ {f g : FuncId} {R S : Type} {out : R → Out} {e : S → Out} {x : Option R} {M : R → Option S} {a : List AV} {b : List Bx} {r : List Rw} {k : R → Res} (hg : ∀ y, good g (out y)) (hi : ∀ y z, out y = out z → y = z) (h : Le (x.map out) (aV SE g a b r)) (hk : ∀ y, x = some y → Le ((M y).map e) (k y)) : Le ((x.bind M).map e) ((kF f).t g out a b r k) := anB (good := good) hg hi h hk
theorem lQp {f g : FuncId} {Q R S : Type} {out : Q ⊕ R → Out} {e : S → Out} {x : Option (Q ⊕ R)} {Mp : Q → Option S} {M : R → Option S} {a : List AV} {b : List Bx} {r : List Rw} {kp : Q → Res} {k : R → Res} (hg : ∀ y, good g (out y)) (hi : ∀ y z, out y = out z → y = z) (h : Le (x.map out) (aV SE g a b r)) (hp : ∀ y, x = some (.inl y) → Le ((Mp y).map e) (kp y)) (hk : ∀ y, x = some (.inr y) → Le ((M y).map e) (k y)) : Le ((aa7 x Mp M).map e) ((kF f).p g out a b r kp k) := ahI (good := good) hg hi h hp hk
theorem lQ6 {f g : FuncId} {A B C D E F S : Type} {out : S6 A B C D E F → Out} {e : S → Out} {x : Option (S6 A B C D E F)} {a : List AV} {b : List Bx} {r : List Rw} {m0 : A → Option S} {m1 : B → Option S} {m2 : C → Option S} {m3 : D → Option S} {m4 : E → Option S} {m5 : F → Option S} {k0 : A → Res} {k1 : B → Res} {k2 : C → Res} {k3 : D → Res} {k4 : E → Res} {k5 : F → Res} (hg : ∀ y, good g (out y)) (hi : ∀ y z, out y = out z → y = z) (h : Le (x.map out) (aV SE g a b r)) (h0 : ∀ y, x = some (.inl y) → Le ((m0 y).map e) (k0 y)) (h1 : ∀ y, x = some (.inr (.inl y)) → Le ((m1 y).map e) (k1 y)) (h2 : ∀ y, x = some (.inr (.inr (.inl y))) → Le ((m2 y).map e) (k2 y)) (h3 : ∀ y, x = some (.inr (.inr (.inr (.inl y)))) → Le ((m3 y).map e) (k3 y)) (h4 : ∀ y, x = some (.inr (.inr (.inr (.inr (.inl y))))) → Le ((m4 y).map e) (k4 y)) (h5 : ∀ y, x = some (.inr (.inr (.inr (.inr (.inr y))))) → Le ((m5 y).map e) (k5 y)) : Le ((ajF x m0 m1 m2 m3 m4 m5).map e) ((kF f).s g out a b r k0 k1 k2 k3 k4 k5) := alD (good := good) hg hi h h0 h1 h2 h3 h4 h5
end Te
end PX
