import Derived.Test.YthjloglncbnhfaaGreatDoorMod
import Derived.Test.YthjloglncbnhfaaGreatDoorProg
set_option linter.unusedVariables false
set_option linter.unusedSimpArgs false
noncomputable section
namespace PX
open Go
open Md
namespace Te
noncomputable def tyL : List (Nat × TI) := [(3, ⟨[.int .i64], false, 8, [], 0⟩),
 (4, ⟨[.bool], false, 1, [], 0⟩),
 (5, ⟨[.int .u8], false, 1, [], 0⟩),
 (9, ⟨[.str], false, 16, [], 0⟩),
 (21, ⟨[.int .i32], false, 4, [], 0⟩),
 (22, ⟨[.ptr], false, 8, [], 83⟩),
 (23, ⟨[.int .i64], false, 8, [], 0⟩),
 (26, ⟨[.sl [.int .i64, .int .i64, .str, .str, .int .i64, .bool, .int .i64, .int .i64, .str, .int .i64, .sl [.str, .str]]], false, 24, [], 139⟩),
 (27, ⟨[.sl [.int .i64]], false, 24, [], 3⟩),
 (29, ⟨[.sl [.int .i64], .int .i64], true, 32, [(0, 27), (1, 3)], 0⟩),
 (31, ⟨[.int .i64, .sl [.int .i64, .int .i64, .str, .str, .int .i64, .bool, .int .i64, .int .i64, .str, .int .i64, .sl [.str, .str]], .sl [.int .i64], .int .i64], true, 64, [(0, 3), (1, 26), (2, 29)], 0⟩),
 (33, ⟨[.sl [.int .i64]], true, 24, [(0, 27)], 0⟩),
 (34, ⟨[.sl [.str, .str, .int .i64, .bool, .int .i64, .int .i64, .str, .int .i64, .sl [.str, .str]]], false, 24, [], 54⟩),
 (43, ⟨[.sl [.int .i64, .int .i64, .bool, .str, .str, .int .i64, .bool, .int .i64, .int .i64, .str, .int .i64, .sl [.str, .str], .str, .str, .bool, .int .i64, .int .i64, .int .i64, .bool, .int .i64, .str, .str, .int .i64, .bool, .int .i64, .int .i64, .str, .int .i64, .sl [.str, .str], .bool, .int .i64, .sl [.str, .int .i64, .bool], .sl [.str], .sl [.int .i64]]], false, 24, [], 67⟩),
 (52, ⟨[.sl [.str, .str]], false, 24, [], 92⟩),
 (54, ⟨[.str, .str, .int .i64, .bool, .int .i64, .int .i64, .str, .int .i64, .sl [.str, .str]], true, 112, [(0, 9), (1, 9), (2, 3), (3, 4), (4, 3), (5, 3), (6, 9), (7, 3), (8, 52)], 0⟩),
 (61, ⟨[.bool, .int .i64, .str, .str, .int .i64, .bool, .int .i64, .int .i64, .str, .int .i64, .sl [.str, .str]], true, 128, [(0, 4), (1, 3), (2, 54)], 0⟩),
 (64, ⟨[.sl [.str, .int .i64, .bool]], false, 24, [], 75⟩),
 (65, ⟨[.sl [.str]], false, 24, [], 9⟩),
 (67, ⟨[.int .i64, .int .i64, .bool, .str, .str, .int .i64, .bool, .int .i64, .int .i64, .str, .int .i64, .sl [.str, .str], .str, .str, .bool, .int .i64, .int .i64, .int .i64, .bool, .int .i64, .str, .str, .int .i64, .bool, .int .i64, .int .i64, .str, .int .i64, .sl [.str, .str], .bool, .int .i64, .sl [.str, .int .i64, .bool], .sl [.str], .sl [.int .i64]], true, 416, [(0, 3), (1, 3), (2, 4), (3, 54), (12, 9), (13, 9), (14, 4), (15, 3), (16, 3), (17, 3), (18, 61), (29, 4), (30, 3), (31, 64), (32, 65), (33, 27)], 0⟩),
 (75, ⟨[.str, .int .i64, .bool], true, 32, [(0, 9), (1, 3), (2, 4)], 0⟩),
 (83, ⟨[.str, .int .i64, .int .i64, .sl [.int .i64, .int .i64, .str, .str, .int .i64, .bool, .int .i64, .int .i64, .str, .int .i64, .sl [.str, .str]], .sl [.int .i64], .int .i64, .sl [.int .i64], .sl [.str, .str, .int .i64, .bool, .int .i64, .int .i64, .str, .int .i64, .sl [.str, .str]], .int .i64, .int .i64], true, 152, [(0, 9), (1, 3), (2, 31), (6, 33), (7, 34), (8, 3), (9, 3)], 0⟩),
 (92, ⟨[.str, .str], true, 32, [(0, 9), (1, 9)], 0⟩),
 (96, ⟨[.fn], false, 8, [], 0⟩),
 (139, ⟨[.int .i64, .int .i64, .str, .str, .int .i64, .bool, .int .i64, .int .i64, .str, .int .i64, .sl [.str, .str]], true, 128, [(0, 3), (1, 3), (2, 54)], 0⟩),
 (147, ⟨[.int .i64, .int .i64, .int .i64, .int .i64, .int .i64, .int .i64, .int .i64, .bool, .bool, .bool, .bool, .str, .str], true, 96, [(0, 3), (1, 3), (2, 3), (3, 3), (4, 3), (5, 3), (6, 3), (7, 4), (8, 4), (9, 4), (10, 4), (11, 9), (12, 9)], 0⟩),
 (164, ⟨[.int .u64], false, 8, [], 0⟩),
 (177, ⟨[.fn], false, 8, [], 0⟩)]
noncomputable def fnL : List (Nat × Func) := [(26, Go.Proofs.Tryz.f26), (27, Go.Proofs.Tryz.f27), (7, Go.Proofs.Tryz.f7), (10, Go.Proofs.Tryz.f10), (11, Go.Proofs.Tryz.f11), (55, Go.Proofs.Tryz.f55), (30, Go.Proofs.Tryz.f30), (68, Go.Proofs.Tryz.f68), (70, Go.Proofs.Tryz.f70), (106, Go.Proofs.Tryz.f106), (107, Go.Proofs.Tryz.f107), (108, Go.Proofs.Tryz.f108), (109, Go.Proofs.Tryz.f109), (110, Go.Proofs.Tryz.f110), (69, Go.Proofs.Tryz.f69), (95, Go.Proofs.Tryz.f95), (56, Go.Proofs.Tryz.f56), (57, Go.Proofs.Tryz.f57), (96, Go.Proofs.Tryz.f96), (58, Go.Proofs.Tryz.f58), (31, Go.Proofs.Tryz.f31), (71, Go.Proofs.Tryz.f71), (72, Go.Proofs.Tryz.f72), (74, Go.Proofs.Tryz.f74), (73, Go.Proofs.Tryz.f73), (111, Go.Proofs.Tryz.f111), (160, Go.Proofs.Tryz.f160), (171, Go.Proofs.Tryz.f171), (157, Go.Proofs.Tryz.f157), (176, Go.Proofs.Tryz.f176), (174, Go.Proofs.Tryz.f174), (172, Go.Proofs.Tryz.f172), (158, Go.Proofs.Tryz.f158), (182, Go.Proofs.Tryz.f182), (181, Go.Proofs.Tryz.f181), (175, Go.Proofs.Tryz.f175), (173, Go.Proofs.Tryz.f173), (159, Go.Proofs.Tryz.f159), (144, Go.Proofs.Tryz.f144), (145, Go.Proofs.Tryz.f145), (143, Go.Proofs.Tryz.f143), (112, Go.Proofs.Tryz.f112), (75, Go.Proofs.Tryz.f75), (76, Go.Proofs.Tryz.f76), (77, Go.Proofs.Tryz.f77), (38, Go.Proofs.Tryz.f38), (20, Go.Proofs.Tryz.f20), (78, Go.Proofs.Tryz.f78), (39, Go.Proofs.Tryz.f39), (40, Go.Proofs.Tryz.f40), (146, Go.Proofs.Tryz.f146), (100, Go.Proofs.Tryz.f100), (101, Go.Proofs.Tryz.f101), (113, Go.Proofs.Tryz.f113), (97, Go.Proofs.Tryz.f97), (138, Go.Proofs.Tryz.f138), (155, Go.Proofs.Tryz.f155), (139, Go.Proofs.Tryz.f139), (140, Go.Proofs.Tryz.f140), (102, Go.Proofs.Tryz.f102), (62, Go.Proofs.Tryz.f62), (104, Go.Proofs.Tryz.f104), (98, Go.Proofs.Tryz.f98), (99, Go.Proofs.Tryz.f99), (59, Go.Proofs.Tryz.f59), (33, Go.Proofs.Tryz.f33), (79, Go.Proofs.Tryz.f79), (61, Go.Proofs.Tryz.f61), (63, Go.Proofs.Tryz.f63), (64, Go.Proofs.Tryz.f64), (35, Go.Proofs.Tryz.f35), (80, Go.Proofs.Tryz.f80), (103, Go.Proofs.Tryz.f103), (60, Go.Proofs.Tryz.f60), (34, Go.Proofs.Tryz.f34), (81, Go.Proofs.Tryz.f81), (162, Go.Proofs.Tryz.f162), (161, Go.Proofs.Tryz.f161), (147, Go.Proofs.Tryz.f147), (163, Go.Proofs.Tryz.f163), (164, Go.Proofs.Tryz.f164), (148, Go.Proofs.Tryz.f148), (114, Go.Proofs.Tryz.f114), (82, Go.Proofs.Tryz.f82), (83, Go.Proofs.Tryz.f83), (84, Go.Proofs.Tryz.f84), (21, Go.Proofs.Tryz.f21), (32, Go.Proofs.Tryz.f32), (13, Go.Proofs.Tryz.f13), (9, Go.Proofs.Tryz.f9), (17, Go.Proofs.Tryz.f17), (66, Go.Proofs.Tryz.f66), (105, Go.Proofs.Tryz.f105), (65, Go.Proofs.Tryz.f65), (36, Go.Proofs.Tryz.f36), (53, Go.Proofs.Tryz.f53), (54, Go.Proofs.Tryz.f54), (28, Go.Proofs.Tryz.f28), (67, Go.Proofs.Tryz.f67), (37, Go.Proofs.Tryz.f37), (18, Go.Proofs.Tryz.f18), (19, Go.Proofs.Tryz.f19), (41, Go.Proofs.Tryz.f41), (22, Go.Proofs.Tryz.f22), (5, Go.Proofs.Tryz.f5)]
noncomputable def tmL : List (Nat × (List Sh × List (TypeId × List Sh))) := [(26, ([.bool], [])),
 (27, ([.agg (((aG.shs).set 1 (.row 0 aC.ks 139 128)).set 2 (.row 1 [.int .i64] 3 8))], [])),
 (7, ([.ptr 0 0, .int .i64], [(83, client_Client.shs)])),
 (10, ([.bool], [(83, client_Client.shs)])),
 (11, ([.int .i64], [(83, client_Client.shs)])),
 (55, ([.row 0 aE.ks 92 32], [])),
 (30, ([.agg ((aB.shs).set 8 (.row 0 aE.ks 92 32))], [])),
 (68, ([.bool], [])),
 (70, ([aA.sh], [])),
 (106, ([bS.sh], [])),
 (107, ([.bool], [])),
 (108, ([.bool], [])),
 (109, ([.bool], [])),
 (110, ([.bool], [])),
 (69, ([.bool], [])),
 (95, ([.bool], [])),
 (56, ([.bool], [])),
 (57, ([.bool], [])),
 (96, ([.bool], [])),
 (58, ([.int .i64], [])),
 (31, ([.int .i64], [])),
 (71, ([.int .i64], [])),
 (72, ([.bool], [])),
 (74, ([.int .i64], [])),
 (73, ([.int .i64], [])),
 (111, ([.int .i64], [])),
 (160, ([.bool], [])),
 (171, ([.str, .bool], [])),
 (157, ([.str, .bool], [])),
 (176, ([.int .i64], [])),
 (174, ([.int .i64], [])),
 (172, ([.str, .str, .bool], [])),
 (158, ([.str, .str, .bool], [])),
 (182, ([.int .i64], [])),
 (181, ([.int .i64], [])),
 (175, ([.sl [.str]], [])),
 (173, ([.sl [.str]], [])),
 (159, ([.sl [.str]], [])),
 (144, ([.bool], [])),
 (145, ([.bool], [])),
 (143, ([.str, .str, .bool], [])),
 (112, ([.bool, .bool], [])),
 (75, ([.int .i64], [])),
 (76, ([.int .i64], [])),
 (77, ([.int .i64], [])),
 (38, ([.int .i64], [])),
 (20, ([.row 0 aA.ks 67 416, .int .i64], [(83, client_Client.shs)])),
 (78, ([.bool], [])),
 (39, ([.bool], [])),
 (40, ([.fn 79 [.ptr 0 0] []], [(83, client_Client.shs)])),
 (146, ([.agg ((((((aA.shs).set 11 (.row 0 aE.ks 92 32)).set 28 (.row 1 aE.ks 92 32)).set 31 (.row 2 aN.ks 75 32)).set 32 (.row 3 [.str] 9 16)).set 33 (.row 4 [.int .i64] 3 8))], [])),
 (100, ([.agg ((aB.shs).set 8 (.row 0 aE.ks 92 32))], [])),
 (101, ([.agg ((((((aA.shs).set 11 (.row 0 aE.ks 92 32)).set 28 (.row 1 aE.ks 92 32)).set 31 (.row 2 aN.ks 75 32)).set 32 (.row 3 [.str] 9 16)).set 33 (.row 4 [.int .i64] 3 8))], [])),
 (113, ([.row 0 aA.ks 67 416], [])),
 (97, ([.int .i64], [])),
 (138, ([.int .i64], [])),
 (155, ([.bool], [])),
 (139, ([.bool], [])),
 (140, ([.bool], [])),
 (102, ([.int .i64, .bool], [])),
 (62, ([.row 0 [.int .i64] 3 8], [])),
 (104, ([.row 0 [.int .i64] 3 8], [])),
 (98, ([.int .i64, .agg ((aK.shs).set 0 (.row 0 [.int .i64] 3 8)), .int .i64], [])),
 (99, ([.agg (((aG.shs).set 1 (.row 0 aC.ks 139 128)).set 2 (.row 1 [.int .i64] 3 8))], [])),
 (59, ([.agg (((aG.shs).set 1 (.row 0 aC.ks 139 128)).set 2 (.row 1 [.int .i64] 3 8)), .agg ((((((aA.shs).set 11 (.row 2 aE.ks 92 32)).set 28 (.row 3 aE.ks 92 32)).set 31 (.row 4 aN.ks 75 32)).set 32 (.row 5 [.str] 9 16)).set 33 (.row 6 [.int .i64] 3 8)), .int .i64], [])),
 (33, ([.row 0 aA.ks 67 416], [(83, client_Client.shs)])),
 (79, ([.row 0 aA.ks 67 416, .row 1 aB.ks 54 112, .int .i64], [(83, client_Client.shs)])),
 (61, ([.bool], [])),
 (63, ([.row 0 [.int .i64] 3 8], [])),
 (64, ([.agg ((((((aA.shs).set 11 (.row 0 aE.ks 92 32)).set 28 (.row 1 aE.ks 92 32)).set 31 (.row 2 aN.ks 75 32)).set 32 (.row 3 [.str] 9 16)).set 33 (.row 4 [.int .i64] 3 8)), .bool], [])),
 (35, ([.agg ((aJ.shs).set 0 (.row 0 [.int .i64] 3 8)), .bool, .row 1 aA.ks 67 416, .int .i64], [])),
 (80, ([.row 0 aA.ks 67 416, .row 1 aB.ks 54 112, .int .i64], [(83, client_Client.shs)])),
 (103, ([.row 0 [.int .i64] 3 8], [])),
 (60, ([.row 0 [.int .i64] 3 8], [])),
 (34, ([.agg ((aJ.shs).set 0 (.row 0 [.int .i64] 3 8)), .agg ((((((aA.shs).set 11 (.row 1 aE.ks 92 32)).set 28 (.row 2 aE.ks 92 32)).set 31 (.row 3 aN.ks 75 32)).set 32 (.row 4 [.str] 9 16)).set 33 (.row 5 [.int .i64] 3 8)), .int .i64], [])),
 (81, ([.row 0 aA.ks 67 416, .row 1 aB.ks 54 112, .int .i64], [(83, client_Client.shs)])),
 (162, ([.bool], [(3, [.int .i64])])),
 (161, ([.int .i64], [(3, [.int .i64])])),
 (147, ([.int .i64], [])),
 (163, ([.agg ((aK.shs).set 0 (.row 0 [.int .i64] 3 8)), .bool], [])),
 (164, ([.row 0 aC.ks 139 128], [])),
 (148, ([.agg (((aG.shs).set 1 (.row 0 aC.ks 139 128)).set 2 (.row 1 [.int .i64] 3 8))], [])),
 (114, ([.agg (((aG.shs).set 1 (.row 0 aC.ks 139 128)).set 2 (.row 1 [.int .i64] 3 8)), .row 2 aA.ks 67 416, .int .i64], [])),
 (82, ([.row 0 aA.ks 67 416, .row 1 aB.ks 54 112, .int .i64], [(83, client_Client.shs)])),
 (83, ([.row 0 aA.ks 67 416, .row 1 aB.ks 54 112, .int .i64], [(83, client_Client.shs)])),
 (84, ([.row 0 aA.ks 67 416, .row 1 aB.ks 54 112, .int .i64], [(83, client_Client.shs)])),
 (21, ([.row 0 aA.ks 67 416, .row 1 aB.ks 54 112, .int .i64], [(83, client_Client.shs)])),
 (32, ([.row 0 aB.ks 54 112], [])),
 (13, ([.row 0 aA.ks 67 416, .int .i64], [(83, client_Client.shs)])),
 (9, ([.bool], [])),
 (17, ([.bool], [])),
 (66, ([.bool], [])),
 (105, ([.row 0 [.str] 9 16], [])),
 (65, ([.bool], [])),
 (36, ([.bool], [])),
 (53, ([.bool], [])),
 (54, ([.bool], [])),
 (28, ([.bool], [])),
 (67, ([.bool], [])),
 (37, ([.int .i64], [])),
 (18, ([.int .i64], [])),
 (19, ([], [(83, client_Client.shs)])),
 (41, ([.bool], [])),
 (22, ([.bool], [])),
 (5, ([.bool], []))]
noncomputable def mvL : List (Nat × Bool) := [(104, true), (33, true), (103, true), (164, true)]
noncomputable def naL : List (Nat × List (List (Option (List CK × TypeId × Nat)))) := [(104, [[some ([.int .i64], 3, 8)], [], [some ([.int .i64], 3, 8)]]), (33, [[], [some (aA.ks, 67, 416)]]), (103, [[some ([.int .i64], 3, 8)], [], []]), (164, [[some (aC.ks, 139, 128)], [], []])]
noncomputable def hlL : List (Nat × List (Nat × Hint)) := [(26, [(4, ⟨[(15, .it 4000)], [], []⟩)]),
 (107, [(4, ⟨[(3, .ptr 1000000000 0), (71, .sl aE.ks), (72, .int .i64), (73, .int .i64)], [(54, aB.shs)], []⟩)]),
 (108, [(4, ⟨[(1, .sl aN.ks), (12, .sl aN.ks), (13, .int .i64), (14, .int .i64)], [], []⟩)]),
 (109, [(4, ⟨[(1, .sl [.str]), (12, .sl [.str]), (13, .int .i64), (14, .int .i64)], [], []⟩)]),
 (110, [(4, ⟨[(1, .sl [.int .i64]), (12, .sl [.int .i64]), (13, .int .i64), (14, .int .i64)], [], []⟩)]),
 (95, [(5, ⟨[(3, .int .i64), (15, .it 4000)], [], []⟩)]),
 (56, [(4, ⟨[(9, .it 4000)], [], []⟩)]),
 (96, [(4, ⟨[(0, .str), (3, .int .i64)], [], []⟩)]),
 (58, [(4, ⟨[(0, .sl aE.ks), (8, .sl aE.ks), (9, .int .i64), (10, .int .i64)], [], []⟩)]),
 (181, [(6, ⟨[(0, .str), (1, .str), (5, .int .i64)], [], []⟩)]),
 (175, [(11, ⟨[(0, .str), (1, .str), (2, .int .i64), (3, .int .i64), (9, .row 3009 [.str] 9 16), (10, .int .i64)], [], []⟩)]),
 (144, [(6, ⟨[(3, .sl [.str]), (4, .bool), (15, .sl [.str]), (16, .int .i64), (17, .int .i64)], [], []⟩), (9, ⟨[(3, .sl [.str]), (4, .bool), (5, .int .i64), (6, .str), (15, .sl [.str]), (16, .int .i64), (17, .int .i64), (23, .it 4000)], [], []⟩)]),
 (75, [(5, ⟨[(18, .sl aN.ks), (19, .int .i64), (20, .int .i64)], [], []⟩)]),
 (76, [(5, ⟨[(16, .sl [.int .i64]), (17, .int .i64), (18, .int .i64)], [], []⟩)]),
 (77, [(5, ⟨[(18, .sl [.str]), (19, .int .i64), (20, .int .i64)], [], []⟩)]),
 (113, [(3, ⟨[(1, .ptr 1000000000 0), (3, .row 3003 aA.ks 67 416), (9, .int .i64), (10, .int .i64)], [(31, aG.shs)], []⟩)]),
 (102, [(3, ⟨[(0, .sl [.int .i64]), (1, .int .i64), (6, .int .i64), (7, .int .i64), (8, .int .i64)], [], []⟩)]),
 (98, [(5, ⟨[(1, .ptr 1000000000 0), (3, .ptr 1000000001 0), (5, .int .i64), (18, .int .i64), (19, .int .i64)], [(29, aK.shs), (29, aK.shs)], []⟩)]),
 (99, [(3, ⟨[(1, .ptr 1000000000 0), (2, .ptr 1000000001 0), (3, .row 3003 aC.ks 139 128), (12, .sl aC.ks), (13, .int .i64), (14, .int .i64)], [(31, aG.shs), (31, aG.shs)], []⟩)]),
 (33, [(1, ⟨[(0, .ptr 2000000000 0), (1, .row 3001 aA.ks 67 416)], [], [(83, client_Client.shs)]⟩)]),
 (79, [(9, ⟨[(0, .ptr 2000000000 0), (7, .row 3007 aB.ks 54 112), (32, .sl aC.ks), (33, .int .i64), (34, .int .i64)], [], [(83, client_Client.shs)]⟩)]),
 (161, [(2, ⟨[(0, .sl aC.ks), (1, .fn 162 [] [.ptr 2000000000 0]), (7, .int .i64), (8, .int .i64)], [], [(3, [.int .i64])]⟩)]),
 (17, [(4, ⟨[(1, .ptr 1000000000 0), (3, .int .i64)], [(54, aB.shs)], []⟩)]),
 (66, [(2, ⟨[(0, .str), (1, .int .u8), (5, .int .i64)], [], []⟩)]),
 (105, [(4, ⟨[(0, .str), (3, .row 3003 [.str] 9 16), (4, .int .i64), (5, .int .i64)], [], []⟩)]),
 (28, [(4, ⟨[(0, .str), (3, .int .i64)], [], []⟩)]),
 (67, [(4, ⟨[(0, .str), (3, .int .i64)], [], []⟩)]),
 (37, [(4, ⟨[(0, .sl aE.ks), (3, .int .i64)], [], []⟩)]),
 (41, [(4, ⟨[(0, .sl aE.ks), (1, .sl aE.ks), (5, .int .i64)], [], []⟩)]),
 (5, [(8, ⟨[(0, .int .i64), (1, .sl aB.ks), (2, .int .u8), (7, .ptr 1000000000 0), (9, .row 3009 aB.ks 54 112), (10, .int .i64)], [(83, client_Client.shs)], []⟩), (23, ⟨[(0, .int .i64), (2, .int .u8), (7, .ptr 1000000000 0), (9, .row 3009 aB.ks 54 112), (14, .int .i64)], [(83, client_Client.shs)], []⟩), (35, ⟨[(0, .int .i64), (2, .int .u8), (7, .ptr 1000000000 0), (9, .row 3009 aB.ks 54 112), (14, .int .i64), (17, .row 3017 aA.ks 67 416), (19, .int .i64), (115, .ptr 1000000000 0), (116, .int .i64), (117, .row 3009 aB.ks 54 112), (118, .int .i64), (119, .bool), (133, .row 3017 aA.ks 67 416), (134, .int .i64), (135, .row 3009 aB.ks 54 112), (136, .int .i64), (137, .bool), (140, .row 3017 aA.ks 67 416), (141, .int .i64), (142, .int .i64), (143, .bool)], [(83, client_Client.shs)], []⟩)])]
noncomputable def hrL : List (Nat × List (Nat × Hint)) := [(26, [(3, ⟨[(0, .str)], [], []⟩), (7, ⟨[(3, .int .i64), (4, .int .i32), (5, .bool), (15, .it 4000)], [], []⟩)]),
 (107, [(3, ⟨[(2, .ptr 1000000000 0), (3, .ptr 1000000001 0)], [(54, aB.shs), (54, aB.shs)], []⟩)]),
 (95, [(3, ⟨[(0, .str)], [], []⟩)]),
 (96, [(3, ⟨[(0, .str)], [], []⟩)]),
 (175, [(7, ⟨[(0, .str), (1, .str), (2, .int .i64), (3, .int .i64)], [], []⟩), (17, ⟨[(0, .str), (9, .row 3009 [.str] 9 16), (10, .int .i64)], [], []⟩)]),
 (33, [(2, ⟨[(0, .ptr 2000000000 0), (1, .row 3001 aA.ks 67 416), (15, .ptr 2000000000 0), (16, .ptr 2000000000 0), (17, .ptr 2000000000 7), (18, .sl aB.ks), (19, .int .i64), (20, .bool)], [], [(83, client_Client.shs)]⟩), (9, ⟨[(0, .ptr 2000000000 0), (1, .row 3001 aA.ks 67 416), (15, .ptr 2000000000 0), (16, .ptr 2000000000 0), (17, .ptr 2000000000 7), (18, .sl aB.ks), (19, .int .i64), (20, .bool)], [], [(83, client_Client.shs)]⟩)]),
 (35, [(7, ⟨[(2, .ptr 1000000000 0), (3, .ptr 1000000001 0), (4, .ptr 1000000002 0), (9, .bool)], [(33, aJ.shs), (67, aA.shs), (33, aJ.shs)], []⟩), (9, ⟨[(2, .ptr 1000000000 0), (3, .ptr 1000000001 0), (4, .ptr 1000000002 0), (9, .bool)], [(33, aJ.shs), (67, aA.shs), (33, aJ.shs)], []⟩), (12, ⟨[(3, .ptr 1000000000 0), (4, .ptr 1000000001 0), (9, .bool), (10, .ptr 1000000002 0)], [(67, aA.shs), (33, aJ.shs), (33, [.row 50200 [.int .i64] 3 8])], []⟩)]),
 (34, [(5, ⟨[(2, .ptr 1000000000 0), (3, .ptr 1000000001 0), (4, .ptr 1000000002 0), (5, .ptr 1000000003 0)], [(33, aJ.shs), (67, aA.shs), (33, aJ.shs), (67, aA.shs)], []⟩)]),
 (114, [(5, ⟨[(2, .ptr 1000000000 0), (3, .ptr 1000000001 0), (4, .ptr 1000000002 0), (7, .int .i64), (8, .ptr 1000000003 0)], [(31, aG.shs), (67, aA.shs), (31, aG.shs), (139, aC.shs)], []⟩)]),
 (21, [(7, ⟨[(0, .ptr 2000000000 0), (3, .ptr 1000000000 0), (8, .bool)], [(67, aA.shs)], [(83, client_Client.shs)]⟩), (9, ⟨[(0, .ptr 2000000000 0), (3, .ptr 1000000000 0)], [(67, aA.shs)], [(83, client_Client.shs)]⟩)]),
 (9, [(4, ⟨[(1, .ptr 1000000000 0)], [(83, client_Client.shs)], []⟩), (7, ⟨[(1, .ptr 1000000000 0)], [(83, client_Client.shs)], []⟩), (10, ⟨[(1, .ptr 1000000000 0)], [(83, client_Client.shs)], []⟩), (15, ⟨[(1, .ptr 1000000000 0)], [(83, client_Client.shs)], []⟩)]),
 (17, [(3, ⟨[(1, .ptr 1000000000 0)], [(54, aB.shs)], []⟩)]),
 (28, [(3, ⟨[(0, .str)], [], []⟩)]),
 (67, [(3, ⟨[(0, .str)], [], []⟩)]),
 (18, [(7, ⟨[(1, .ptr 1000000000 0)], [(54, aB.shs)], []⟩), (9, ⟨[(1, .ptr 1000000000 0)], [(54, aB.shs)], []⟩), (11, ⟨[(1, .ptr 1000000000 0)], [(54, aB.shs)], []⟩)]),
 (5, [(3, ⟨[(0, .int .i64), (1, .sl aB.ks), (2, .int .u8)], [], []⟩), (6, ⟨[(0, .int .i64), (1, .sl aB.ks), (2, .int .u8), (7, .ptr 1000000000 0)], [(83, client_Client.shs)], []⟩), (32, ⟨[(0, .int .i64), (2, .int .u8), (7, .ptr 1000000000 0), (9, .row 3009 aB.ks 54 112), (14, .int .i64), (17, .row 3017 aA.ks 67 416), (115, .ptr 1000000000 0), (116, .int .i64), (117, .row 3009 aB.ks 54 112), (118, .int .i64), (119, .bool)], [(83, client_Client.shs)], []⟩), (34, ⟨[(0, .int .i64), (2, .int .u8), (7, .ptr 1000000000 0), (9, .row 3009 aB.ks 54 112), (14, .int .i64), (17, .row 3017 aA.ks 67 416), (115, .ptr 1000000000 0), (116, .int .i64), (117, .row 3009 aB.ks 54 112), (118, .int .i64), (119, .bool), (133, .row 3017 aA.ks 67 416), (134, .int .i64), (135, .row 3009 aB.ks 54 112), (136, .int .i64), (137, .bool), (140, .row 3017 aA.ks 67 416), (141, .int .i64), (142, .int .i64), (143, .bool)], [(83, client_Client.shs)], []⟩)])]
noncomputable def eqL : List (Nat × List CK) := [(75, [.str, .int .i64, .bool]), (92, [.str, .str]), (147, [.int .i64, .int .i64, .int .i64, .int .i64, .int .i64, .int .i64, .int .i64, .bool, .bool, .bool, .bool, .str, .str])]
noncomputable def prL : List (Nat × Prim) := [(183, .indexByte), (187, .countByte)]
noncomputable def lbL : List (Nat × LibK) := [(104, .insert [.int .i64] 3 8), (103, .spec (alx [.int .i64] 3 8)), (164, .spec (alx aC.ks 139 128))]
noncomputable def vrL : List (Nat × List (Nat × (List Sh × List (TypeId × List Sh)))) := [(7, [(0, ([.nilp, .int .i64], []))]), (40, [(80, ([.fn 79 [.ptr 0 0] []], [(83, client_Client.shs)])), (81, ([.fn 80 [.ptr 0 0] []], [(83, client_Client.shs)])), (82, ([.fn 81 [.ptr 0 0] []], [(83, client_Client.shs)])), (83, ([.fn 82 [.ptr 0 0] []], [(83, client_Client.shs)])), (84, ([.fn 83 [.ptr 0 0] []], [(83, client_Client.shs)])), (85, ([.fn 84 [.ptr 0 0] []], [(83, client_Client.shs)]))])]
noncomputable def pvL : List (Nat × Sh) := []
noncomputable def SE : Env := { fn := assoc fnL, ty := assoc tyL, tm := assoc tmL, mv := fun f => match assoc mvL f with | some b => b | none => false, eqt := assoc eqL, pv := assoc pvL, vr := fun f => match assoc vrL f with | some l => l | none => [], hl := fun f r => match assoc hlL f with | some l => assoc l r | none => none, hr := fun f r => match assoc hrL f with | some l => assoc l r | none => none, prim := assoc prL, lib := assoc lbL, na := fun f => match assoc naL f with | some l => l | none => [] }
def aD : (Bool) → Out := fun r => .ret [.d (.bool r)] [] []
theorem aP : ∀ y z, aD y = aD z → y = z := fun y z h => congrArg (fun o => bA (avD (dD 0 (Out.res o)))) h
def bH : (aG) → Out := fun r => .ret [.agg (((aG.avs r).set 1 (.row 0)).set 2 (.row 1))] [] [⟨aC.ks, 139, 128, (List.map aC.enc r.Items)⟩, ⟨[.int .i64], 3, 8, (List.map (encI .i64) r.Pool.Used)⟩]
theorem iF : ∀ y z, bH y = bH z → y = z := fun y z h => aG.inj (congrArg (fun o => List.map (avR (Out.rws o)) (cellsOf (dD 0 (Out.res o)))) h)
def aar : (Int) → Out := fun r => .ret [.nilp, .d (.int .i64 r)] [] []
theorem akt : ∀ y z, aar y = aar z → y = z := fun y z h => congrArg (fun o => aL (avD (dD 1 (Out.res o)))) h
def zU : (Int × client_Client) → Out := fun r => .ret [.ptr 0 0, .d (.int .i64 r.1)] [⟨83, (client_Client.avs r.2)⟩] []
theorem ajR : ∀ y z, zU y = zU z → y = z := fun y z h => Prod.ext (congrArg (fun o => aL (avD (dD 1 (Out.res o)))) h) (client_Client.inj (congrArg (fun o => List.map avD (wU 0 (Out.bxs o))) h))
def lS : (((Int) ⊕ (Int × client_Client))) → Out := (abv aar zU)
theorem w3 : ∀ y z, lS y = lS z → y = z := (xB (k := (some 0)) akt ajR (fun _ => rfl) (fun _ => (by decide : ¬ (none : Option Nat) = (some 0))))
def dV : (Bool × client_Client) → Out := fun r => .ret [.d (.bool r.1)] [⟨83, (client_Client.avs r.2)⟩] []
theorem kD : ∀ y z, dV y = dV z → y = z := fun y z h => Prod.ext (congrArg (fun o => bA (avD (dD 0 (Out.res o)))) h) (client_Client.inj (congrArg (fun o => List.map avD (wU 0 (Out.bxs o))) h))
def cU : (Int × client_Client) → Out := fun r => .ret [.d (.int .i64 r.1)] [⟨83, (client_Client.avs r.2)⟩] []
theorem gS : ∀ y z, cU y = cU z → y = z := fun y z h => Prod.ext (congrArg (fun o => aL (avD (dD 0 (Out.res o)))) h) (client_Client.inj (congrArg (fun o => List.map avD (wU 0 (Out.bxs o))) h))
def cJ : ((List aE)) → Out := fun r => .ret [.row 0] [] [⟨aE.ks, 92, 32, (List.map aE.enc r)⟩]
theorem n9 : ∀ y z, cJ y = cJ z → y = z := fun y z h => map_inj aE.inj (congrArg (fun o => tH 0 (Out.rws o)) h)
def cZ : (aB) → Out := fun r => .ret [.agg ((aB.avs r).set 8 (.row 0))] [] [⟨aE.ks, 92, 32, (List.map aE.enc r.Props)⟩]
theorem iQ : ∀ y z, cZ y = cZ z → y = z := fun y z h => aB.inj (congrArg (fun o => List.map (avR (Out.rws o)) (cellsOf (dD 0 (Out.res o)))) h)
def bR : (aA) → Out := fun r => .ret [aA.av r] [] []
theorem ad7 : ∀ y z, bR y = bR z → y = z := fun y z h => aA.inj (congrArg (fun o => List.map avD (cellsOf (dD 0 (Out.res o)))) h)
def lH : (bS) → Out := fun r => .ret [bS.av r] [] []
theorem ahJ : ∀ y z, lH y = lH z → y = z := fun y z h => bS.inj (congrArg (fun o => List.map avD (cellsOf (dD 0 (Out.res o)))) h)
def aH : (Int) → Out := fun r => .ret [.d (.int .i64 r)] [] []
theorem aX : ∀ y z, aH y = aH z → y = z := fun y z h => congrArg (fun o => aL (avD (dD 0 (Out.res o)))) h
def eC : (Str × Bool) → Out := fun r => .ret [.d (.str r.1), .d (.bool r.2)] [] []
theorem v7 : ∀ y z, eC y = eC z → y = z := fun y z h => Prod.ext (congrArg (fun o => aU (avD (dD 0 (Out.res o)))) h) (congrArg (fun o => bA (avD (dD 1 (Out.res o)))) h)
def bK : (Str × Str × Bool) → Out := fun r => .ret [.d (.str r.1), .d (.str r.2.1), .d (.bool r.2.2)] [] []
theorem nJ : ∀ y z, bK y = bK z → y = z := fun y z h => Prod.ext (congrArg (fun o => aU (avD (dD 0 (Out.res o)))) h) (Prod.ext (congrArg (fun o => aU (avD (dD 1 (Out.res o)))) h) (congrArg (fun o => bA (avD (dD 2 (Out.res o)))) h))
def cD : ((List Str)) → Out := fun r => .ret [.d (.sl [.str] (List.map bD r))] [] []
theorem uV : ∀ y z, cD y = cD z → y = z := fun y z h => map_inj ajL (congrArg (fun o => dSl (avD (dD 0 (Out.res o)))) h)
def mX : (Bool × Bool) → Out := fun r => .ret [.d (.bool r.1), .d (.bool r.2)] [] []
theorem ab5 : ∀ y z, mX y = mX z → y = z := fun y z h => Prod.ext (congrArg (fun o => bA (avD (dD 0 (Out.res o)))) h) (congrArg (fun o => bA (avD (dD 1 (Out.res o)))) h)
def aV : ((List aA) × Int × client_Client) → Out := fun r => .ret [.row 0, .d (.int .i64 r.2.1)] [⟨83, (client_Client.avs r.2.2)⟩] [⟨aA.ks, 67, 416, (List.map aA.enc r.1)⟩]
theorem cI : ∀ y z, aV y = aV z → y = z := fun y z h => Prod.ext (map_inj aA.inj (congrArg (fun o => tH 0 (Out.rws o)) h)) (Prod.ext (congrArg (fun o => aL (avD (dD 1 (Out.res o)))) h) (client_Client.inj (congrArg (fun o => List.map avD (wU 0 (Out.bxs o))) h)))
def lX : (client_Client) → Out := fun r => .ret [.fn 79 [.ptr 0 0] []] [⟨83, (client_Client.avs r)⟩] []
theorem zM : ∀ y z, lX y = lX z → y = z := fun y z h => client_Client.inj (congrArg (fun o => List.map avD (wU 0 (Out.bxs o))) h)
def lY : (client_Client) → Out := fun r => .ret [.fn 80 [.ptr 0 0] []] [⟨83, (client_Client.avs r)⟩] []
theorem zL : ∀ y z, lY y = lY z → y = z := fun y z h => client_Client.inj (congrArg (fun o => List.map avD (wU 0 (Out.bxs o))) h)
def l6 : (client_Client) → Out := fun r => .ret [.fn 81 [.ptr 0 0] []] [⟨83, (client_Client.avs r)⟩] []
theorem zO : ∀ y z, l6 y = l6 z → y = z := fun y z h => client_Client.inj (congrArg (fun o => List.map avD (wU 0 (Out.bxs o))) h)
def lW : (client_Client) → Out := fun r => .ret [.fn 82 [.ptr 0 0] []] [⟨83, (client_Client.avs r)⟩] []
theorem zQ : ∀ y z, lW y = lW z → y = z := fun y z h => client_Client.inj (congrArg (fun o => List.map avD (wU 0 (Out.bxs o))) h)
def l7 : (client_Client) → Out := fun r => .ret [.fn 83 [.ptr 0 0] []] [⟨83, (client_Client.avs r)⟩] []
theorem zS : ∀ y z, l7 y = l7 z → y = z := fun y z h => client_Client.inj (congrArg (fun o => List.map avD (wU 0 (Out.bxs o))) h)
def lZ : (client_Client) → Out := fun r => .ret [.fn 84 [.ptr 0 0] []] [⟨83, (client_Client.avs r)⟩] []
theorem zN : ∀ y z, lZ y = lZ z → y = z := fun y z h => client_Client.inj (congrArg (fun o => List.map avD (wU 0 (Out.bxs o))) h)
def eR : (((client_Client) ⊕ ((client_Client) ⊕ ((client_Client) ⊕ ((client_Client) ⊕ ((client_Client) ⊕ (client_Client))))))) → Out := (abv lX (abv lY (abv l6 (abv lW (abv l7 lZ)))))
theorem aam : ∀ y z, eR y = eR z → y = z := (xB (k := (some 80)) zM (xB (k := (some 81)) zL (xB (k := (some 82)) zO (xB (k := (some 83)) zQ (xB (k := (some 84)) zS zN (fun _ => rfl) (fun _ => (by decide : ¬ ((some 85) : Option Nat) = (some 84)))) (fun _ => rfl) ((vP (fun _ => (by decide : ¬ ((some 84) : Option Nat) = (some 83))) (fun _ => (by decide : ¬ ((some 85) : Option Nat) = (some 83)))))) (fun _ => rfl) ((vP (fun _ => (by decide : ¬ ((some 83) : Option Nat) = (some 82))) ((vP (fun _ => (by decide : ¬ ((some 84) : Option Nat) = (some 82))) (fun _ => (by decide : ¬ ((some 85) : Option Nat) = (some 82)))))))) (fun _ => rfl) ((vP (fun _ => (by decide : ¬ ((some 82) : Option Nat) = (some 81))) ((vP (fun _ => (by decide : ¬ ((some 83) : Option Nat) = (some 81))) ((vP (fun _ => (by decide : ¬ ((some 84) : Option Nat) = (some 81))) (fun _ => (by decide : ¬ ((some 85) : Option Nat) = (some 81)))))))))) (fun _ => rfl) ((vP (fun _ => (by decide : ¬ ((some 81) : Option Nat) = (some 80))) ((vP (fun _ => (by decide : ¬ ((some 82) : Option Nat) = (some 80))) ((vP (fun _ => (by decide : ¬ ((some 83) : Option Nat) = (some 80))) ((vP (fun _ => (by decide : ¬ ((some 84) : Option Nat) = (some 80))) (fun _ => (by decide : ¬ ((some 85) : Option Nat) = (some 80))))))))))))
def bI : (aA) → Out := fun r => .ret [.agg ((((((aA.avs r).set 11 (.row 0)).set 28 (.row 1)).set 31 (.row 2)).set 32 (.row 3)).set 33 (.row 4))] [] [⟨aE.ks, 92, 32, (List.map aE.enc r.Message.Props)⟩, ⟨aE.ks, 92, 32, (List.map aE.enc r.Will.Message.Props)⟩, ⟨aN.ks, 75, 32, (List.map aN.enc r.Subs)⟩, ⟨[.str], 9, 16, (List.map bD r.Filters)⟩, ⟨[.int .i64], 3, 8, (List.map (encI .i64) r.Codes)⟩]
theorem gY : ∀ y z, bI y = bI z → y = z := fun y z h => aA.inj (congrArg (fun o => List.map (avR (Out.rws o)) (cellsOf (dD 0 (Out.res o)))) h)
def bZ : ((List aA)) → Out := fun r => .ret [.row 0] [] [⟨aA.ks, 67, 416, (List.map aA.enc r)⟩]
theorem vQ : ∀ y z, bZ y = bZ z → y = z := fun y z h => map_inj aA.inj (congrArg (fun o => tH 0 (Out.rws o)) h)
def bW : (Int × Bool) → Out := fun r => .ret [.d (.int .i64 r.1), .d (.bool r.2)] [] []
theorem fA : ∀ y z, bW y = bW z → y = z := fun y z h => Prod.ext (congrArg (fun o => aL (avD (dD 0 (Out.res o)))) h) (congrArg (fun o => bA (avD (dD 1 (Out.res o)))) h)
def aR : ((List Int)) → Out := fun r => .ret [.row 0] [] [⟨[.int .i64], 3, 8, (List.map (encI .i64) r)⟩]
theorem bU : ∀ y z, aR y = aR z → y = z := fun y z h => map_inj (agl _) (congrArg (fun o => tH 0 (Out.rws o)) h)
def dL : (Int × aK × Int) → Out := fun r => .ret [.d (.int .i64 r.1), .agg ((aK.avs r.2.1).set 0 (.row 0)), .d (.int .i64 r.2.2)] [] [⟨[.int .i64], 3, 8, (List.map (encI .i64) r.2.1.Used)⟩]
theorem afC : ∀ y z, dL y = dL z → y = z := fun y z h => Prod.ext (congrArg (fun o => aL (avD (dD 0 (Out.res o)))) h) (Prod.ext (aK.inj (congrArg (fun o => List.map (avR (Out.rws o)) (cellsOf (dD 1 (Out.res o)))) h)) (congrArg (fun o => aL (avD (dD 2 (Out.res o)))) h))
def fH : (aG × aA × Int) → Out := fun r => .ret [.agg (((aG.avs r.1).set 1 (.row 0)).set 2 (.row 1)), .agg ((((((aA.avs r.2.1).set 11 (.row 2)).set 28 (.row 3)).set 31 (.row 4)).set 32 (.row 5)).set 33 (.row 6)), .d (.int .i64 r.2.2)] [] [⟨aC.ks, 139, 128, (List.map aC.enc r.1.Items)⟩, ⟨[.int .i64], 3, 8, (List.map (encI .i64) r.1.Pool.Used)⟩, ⟨aE.ks, 92, 32, (List.map aE.enc r.2.1.Message.Props)⟩, ⟨aE.ks, 92, 32, (List.map aE.enc r.2.1.Will.Message.Props)⟩, ⟨aN.ks, 75, 32, (List.map aN.enc r.2.1.Subs)⟩, ⟨[.str], 9, 16, (List.map bD r.2.1.Filters)⟩, ⟨[.int .i64], 3, 8, (List.map (encI .i64) r.2.1.Codes)⟩]
theorem aha : ∀ y z, fH y = fH z → y = z := fun y z h => Prod.ext (aG.inj (congrArg (fun o => List.map (avR (Out.rws o)) (cellsOf (dD 0 (Out.res o)))) h)) (Prod.ext (aA.inj (congrArg (fun o => List.map (avR (Out.rws o)) (cellsOf (dD 1 (Out.res o)))) h)) (congrArg (fun o => aL (avD (dD 2 (Out.res o)))) h))
def bM : ((List aA) × client_Client) → Out := fun r => .ret [.row 0] [⟨83, (client_Client.avs r.2)⟩] [⟨aA.ks, 67, 416, (List.map aA.enc r.1)⟩]
theorem kV : ∀ y z, bM y = bM z → y = z := fun y z h => Prod.ext (map_inj aA.inj (congrArg (fun o => tH 0 (Out.rws o)) h)) (client_Client.inj (congrArg (fun o => List.map avD (wU 0 (Out.bxs o))) h))
def aO : ((List aA) × (List aB) × Int × client_Client) → Out := fun r => .ret [.row 0, .row 1, .d (.int .i64 r.2.2.1)] [⟨83, (client_Client.avs r.2.2.2)⟩] [⟨aA.ks, 67, 416, (List.map aA.enc r.1)⟩, ⟨aB.ks, 54, 112, (List.map aB.enc r.2.1)⟩]
theorem cQ : ∀ y z, aO y = aO z → y = z := fun y z h => Prod.ext (map_inj aA.inj (congrArg (fun o => tH 0 (Out.rws o)) h)) (Prod.ext (map_inj aB.inj (congrArg (fun o => tH 1 (Out.rws o)) h)) (Prod.ext (congrArg (fun o => aL (avD (dD 2 (Out.res o)))) h) (client_Client.inj (congrArg (fun o => List.map avD (wU 0 (Out.bxs o))) h))))
def bT : (aA × Bool) → Out := fun r => .ret [.agg ((((((aA.avs r.1).set 11 (.row 0)).set 28 (.row 1)).set 31 (.row 2)).set 32 (.row 3)).set 33 (.row 4)), .d (.bool r.2)] [] [⟨aE.ks, 92, 32, (List.map aE.enc r.1.Message.Props)⟩, ⟨aE.ks, 92, 32, (List.map aE.enc r.1.Will.Message.Props)⟩, ⟨aN.ks, 75, 32, (List.map aN.enc r.1.Subs)⟩, ⟨[.str], 9, 16, (List.map bD r.1.Filters)⟩, ⟨[.int .i64], 3, 8, (List.map (encI .i64) r.1.Codes)⟩]
theorem aiG : ∀ y z, bT y = bT z → y = z := fun y z h => Prod.ext (aA.inj (congrArg (fun o => List.map (avR (Out.rws o)) (cellsOf (dD 0 (Out.res o)))) h)) (congrArg (fun o => bA (avD (dD 1 (Out.res o)))) h)
def dM : (aJ × Bool × (List aA) × Int) → Out := fun r => .ret [.agg ((aJ.avs r.1).set 0 (.row 0)), .d (.bool r.2.1), .row 1, .d (.int .i64 r.2.2.2)] [] [⟨[.int .i64], 3, 8, (List.map (encI .i64) r.1.IDs)⟩, ⟨aA.ks, 67, 416, (List.map aA.enc r.2.2.1)⟩]
theorem ag8 : ∀ y z, dM y = dM z → y = z := fun y z h => Prod.ext (aJ.inj (congrArg (fun o => List.map (avR (Out.rws o)) (cellsOf (dD 0 (Out.res o)))) h)) (Prod.ext (congrArg (fun o => bA (avD (dD 1 (Out.res o)))) h) (Prod.ext (map_inj aA.inj (congrArg (fun o => tH 1 (Out.rws o)) h)) (congrArg (fun o => aL (avD (dD 3 (Out.res o)))) h)))
def bY : (aJ × aA × Int) → Out := fun r => .ret [.agg ((aJ.avs r.1).set 0 (.row 0)), .agg ((((((aA.avs r.2.1).set 11 (.row 1)).set 28 (.row 2)).set 31 (.row 3)).set 32 (.row 4)).set 33 (.row 5)), .d (.int .i64 r.2.2)] [] [⟨[.int .i64], 3, 8, (List.map (encI .i64) r.1.IDs)⟩, ⟨aE.ks, 92, 32, (List.map aE.enc r.2.1.Message.Props)⟩, ⟨aE.ks, 92, 32, (List.map aE.enc r.2.1.Will.Message.Props)⟩, ⟨aN.ks, 75, 32, (List.map aN.enc r.2.1.Subs)⟩, ⟨[.str], 9, 16, (List.map bD r.2.1.Filters)⟩, ⟨[.int .i64], 3, 8, (List.map (encI .i64) r.2.1.Codes)⟩]
theorem aaT : ∀ y z, bY y = bY z → y = z := fun y z h => Prod.ext (aJ.inj (congrArg (fun o => List.map (avR (Out.rws o)) (cellsOf (dD 0 (Out.res o)))) h)) (Prod.ext (aA.inj (congrArg (fun o => List.map (avR (Out.rws o)) (cellsOf (dD 1 (Out.res o)))) h)) (congrArg (fun o => aL (avD (dD 2 (Out.res o)))) h))
def kJ : (Bool × Int) → Out := fun r => .ret [.d (.bool r.1)] [⟨3, [.d (.int .i64 r.2)]⟩] []
theorem agU : ∀ y z, kJ y = kJ z → y = z := fun y z h => Prod.ext (congrArg (fun o => bA (avD (dD 0 (Out.res o)))) h) (congrArg (fun o => aL (avD (dD 0 (wU 0 (Out.bxs o))))) h)
def cP : (Int × Int) → Out := fun r => .ret [.d (.int .i64 r.1)] [⟨3, [.d (.int .i64 r.2)]⟩] []
theorem rV : ∀ y z, cP y = cP z → y = z := fun y z h => Prod.ext (congrArg (fun o => aL (avD (dD 0 (Out.res o)))) h) (congrArg (fun o => aL (avD (dD 0 (wU 0 (Out.bxs o))))) h)
def fK : (aK × Bool) → Out := fun r => .ret [.agg ((aK.avs r.1).set 0 (.row 0)), .d (.bool r.2)] [] [⟨[.int .i64], 3, 8, (List.map (encI .i64) r.1.Used)⟩]
theorem aa5 : ∀ y z, fK y = fK z → y = z := fun y z h => Prod.ext (aK.inj (congrArg (fun o => List.map (avR (Out.rws o)) (cellsOf (dD 0 (Out.res o)))) h)) (congrArg (fun o => bA (avD (dD 1 (Out.res o)))) h)
def dO : ((List aC)) → Out := fun r => .ret [.row 0] [] [⟨aC.ks, 139, 128, (List.map aC.enc r)⟩]
theorem tS : ∀ y z, dO y = dO z → y = z := fun y z h => map_inj aC.inj (congrArg (fun o => tH 0 (Out.rws o)) h)
def cO : (aG × (List aA) × Int) → Out := fun r => .ret [.agg (((aG.avs r.1).set 1 (.row 0)).set 2 (.row 1)), .row 2, .d (.int .i64 r.2.2)] [] [⟨aC.ks, 139, 128, (List.map aC.enc r.1.Items)⟩, ⟨[.int .i64], 3, 8, (List.map (encI .i64) r.1.Pool.Used)⟩, ⟨aA.ks, 67, 416, (List.map aA.enc r.2.1)⟩]
theorem agL : ∀ y z, cO y = cO z → y = z := fun y z h => Prod.ext (aG.inj (congrArg (fun o => List.map (avR (Out.rws o)) (cellsOf (dD 0 (Out.res o)))) h)) (Prod.ext (map_inj aA.inj (congrArg (fun o => tH 2 (Out.rws o)) h)) (congrArg (fun o => aL (avD (dD 2 (Out.res o)))) h))
def cH : ((List aB)) → Out := fun r => .ret [.row 0] [] [⟨aB.ks, 54, 112, (List.map aB.enc r)⟩]
theorem sW : ∀ y z, cH y = cH z → y = z := fun y z h => map_inj aB.inj (congrArg (fun o => tH 0 (Out.rws o)) h)
def fG : ((List Str)) → Out := fun r => .ret [.row 0] [] [⟨[.str], 9, 16, (List.map bD r)⟩]
theorem yC : ∀ y z, fG y = fG z → y = z := fun y z h => map_inj ajL (congrArg (fun o => tH 0 (Out.rws o)) h)
def gT : (client_Client) → Out := fun r => .ret [] [⟨83, (client_Client.avs r)⟩] []
theorem vV : ∀ y z, gT y = gT z → y = z := fun y z h => client_Client.inj (congrArg (fun o => List.map avD (wU 0 (Out.bxs o))) h)
noncomputable def oL : List (Nat × abZ) := [(26, .one aD), (27, .one bH), (7, .two lS), (10, .one dV), (11, .one cU), (55, .one cJ), (30, .one cZ), (68, .one aD), (70, .one bR), (106, .one lH), (107, .one aD), (108, .one aD), (109, .one aD), (110, .one aD), (69, .one aD), (95, .one aD), (56, .one aD), (57, .one aD), (96, .one aD), (58, .one aH), (31, .one aH), (71, .one aH), (72, .one aD), (74, .one aH), (73, .one aH), (111, .one aH), (160, .one aD), (171, .one eC), (157, .one eC), (176, .one aH), (174, .one aH), (172, .one bK), (158, .one bK), (182, .one aH), (181, .one aH), (175, .one cD), (173, .one cD), (159, .one cD), (144, .one aD), (145, .one aD), (143, .one bK), (112, .one mX), (75, .one aH), (76, .one aH), (77, .one aH), (38, .one aH), (20, .one aV), (78, .one aD), (39, .one aD), (40, .six eR), (146, .one bI), (100, .one cZ), (101, .one bI), (113, .one bZ), (97, .one aH), (138, .one aH), (155, .one aD), (139, .one aD), (140, .one aD), (102, .one bW), (62, .one aR), (104, .one aR), (98, .one dL), (99, .one bH), (59, .one fH), (33, .one bM), (79, .one aO), (61, .one aD), (63, .one aR), (64, .one bT), (35, .one dM), (80, .one aO), (103, .one aR), (60, .one aR), (34, .one bY), (81, .one aO), (162, .one kJ), (161, .one cP), (147, .one aH), (163, .one fK), (164, .one dO), (148, .one bH), (114, .one cO), (82, .one aO), (83, .one aO), (84, .one aO), (21, .one aO), (32, .one cH), (13, .one aV), (9, .one aD), (17, .one aD), (66, .one aD), (105, .one fG), (65, .one aD), (36, .one aD), (53, .one aD), (54, .one aD), (28, .one aD), (67, .one aD), (37, .one aH), (18, .one aH), (19, .one gT), (41, .one aD), (22, .one aD), (5, .one aD)]
def good : FuncId → Out → Prop := abR oL
noncomputable def K (κ : Tau) : oN := asq oL κ
noncomputable abbrev kF (f : FuncId) : Tau := ac9 SE good f
theorem Kr (f : FuncId) : K (kF f) = iJ (j2 SE good) := aqR oL f
noncomputable abbrev bdy (κ : Tau) (f : FuncId) (a : List AV) (b : List Bx) (r : List Rw) : Res := ap3 SE K κ f a b r
theorem bF {f nb p st} {x : Res} {t : Tau → Res} (h : ∀ κ, aoe SE (K κ) κ.Λ κ.J f nb p st = t κ) (h2 : Le x (t (kF f))) : Le x (lab SE (K (kF f)) (kF f).Λ (kF f).J f nb p st) := at3 (Kr f) (h _) h2
theorem aZ {f a b r} {x : Res} {t : Tau → Res} (h : ∀ κ, bdy κ f a b r = t κ) (h2 : Le x (t (kF f))) (hlib : SE.lib f = none := by rfl) : Le x (aW SE f a b r) := arS (Kr f) hlib (h _) h2
theorem lQ {f g : FuncId} {R S : Type} {out : R → Out} {e : S → Out} {x : Option R} {M : R → Option S} {a : List AV} {b : List Bx} {r : List Rw} {k : R → Res} (hg : ∀ y, good g (out y)) (hi : ∀ y z, out y = out z → y = z) (h : Le (x.map out) (aW SE g a b r)) (hk : ∀ y, x = some y → Le ((M y).map e) (k y)) : Le ((x.bind M).map e) ((kF f).t g out a b r k) := atu (good := good) hg hi h hk
theorem lQp {f g : FuncId} {Q R S : Type} {out : Q ⊕ R → Out} {e : S → Out} {x : Option (Q ⊕ R)} {Mp : Q → Option S} {M : R → Option S} {a : List AV} {b : List Bx} {r : List Rw} {kp : Q → Res} {k : R → Res} (hg : ∀ y, good g (out y)) (hi : ∀ y z, out y = out z → y = z) (h : Le (x.map out) (aW SE g a b r)) (hp : ∀ y, x = some (.inl y) → Le ((Mp y).map e) (kp y)) (hk : ∀ y, x = some (.inr y) → Le ((M y).map e) (k y)) : Le ((ab9 x Mp M).map e) ((kF f).p g out a b r kp k) := anE (good := good) hg hi h hp hk
theorem lQ6 {f g : FuncId} {A B C D E F S : Type} {out : S6 A B C D E F → Out} {e : S → Out} {x : Option (S6 A B C D E F)} {a : List AV} {b : List Bx} {r : List Rw} {m0 : A → Option S} {m1 : B → Option S} {m2 : C → Option S} {m3 : D → Option S} {m4 : E → Option S} {m5 : F → Option S} {k0 : A → Res} {k1 : B → Res} {k2 : C → Res} {k3 : D → Res} {k4 : E → Res} {k5 : F → Res} (hg : ∀ y, good g (out y)) (hi : ∀ y z, out y = out z → y = z) (h : Le (x.map out) (aW SE g a b r)) (h0 : ∀ y, x = some (.inl y) → Le ((m0 y).map e) (k0 y)) (h1 : ∀ y, x = some (.inr (.inl y)) → Le ((m1 y).map e) (k1 y)) (h2 : ∀ y, x = some (.inr (.inr (.inl y))) → Le ((m2 y).map e) (k2 y)) (h3 : ∀ y, x = some (.inr (.inr (.inr (.inl y)))) → Le ((m3 y).map e) (k3 y)) (h4 : ∀ y, x = some (.inr (.inr (.inr (.inr (.inl y))))) → Le ((m4 y).map e) (k4 y)) (h5 : ∀ y, x = some (.inr (.inr (.inr (.inr (.inr y))))) → Le ((m5 y).map e) (k5 y)) : Le ((aqi x m0 m1 m2 m3 m4 m5).map e) ((kF f).s g out a b r k0 k1 k2 k3 k4 k5) := ar9 (good := good) hg hi h h0 h1 h2 h3 h4 h5
end Te
end PX
