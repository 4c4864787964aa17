import Derived.Test.YthgmhhgmnegocaaDoorMod
import Derived.Test.YthgmhhgmnegocaaDoorProg
set_option linter.unusedVariables false
set_option linter.unusedSimpArgs false
noncomputable section
namespace PX
open Go
open Md
namespace Te
def tyL : List (Nat × TI) := [(3, ⟨[.int .i64], false, 8, [], 0⟩),
 (4, ⟨[.bool], false, 1, [], 0⟩),
 (5, ⟨[.int .u8], false, 1, [], 0⟩),
 (9, ⟨[.str], false, 16, [], 0⟩),
 (21, ⟨[.int .i32], false, 4, [], 0⟩),
 (22, ⟨[.sl [.int .u8]], false, 24, [], 5⟩),
 (24, ⟨[.sl [.str, .str]], false, 24, [], 80⟩),
 (26, ⟨[.str, .str, .int .i64, .bool, .int .i64, .int .i64, .str, .int .i64, .sl [.str, .str]], true, 112, [(0, 9), (1, 9), (2, 3), (3, 4), (4, 3), (5, 3), (6, 9), (7, 3), (8, 24)], 0⟩),
 (28, ⟨[.bool, .int .i64, .str, .str, .int .i64, .bool, .int .i64, .int .i64, .str, .int .i64, .sl [.str, .str]], true, 128, [(0, 4), (1, 3), (2, 26)], 0⟩),
 (29, ⟨[.sl [.str, .int .i64, .bool]], false, 24, [], 47⟩),
 (30, ⟨[.sl [.str]], false, 24, [], 9⟩),
 (31, ⟨[.sl [.int .i64]], false, 24, [], 3⟩),
 (33, ⟨[.int .i64, .int .i64, .bool, .str, .str, .int .i64, .bool, .int .i64, .int .i64, .str, .int .i64, .sl [.str, .str], .str, .str, .bool, .int .i64, .int .i64, .int .i64, .bool, .int .i64, .str, .str, .int .i64, .bool, .int .i64, .int .i64, .str, .int .i64, .sl [.str, .str], .bool, .int .i64, .sl [.str, .int .i64, .bool], .sl [.str], .sl [.int .i64]], true, 416, [(0, 3), (1, 3), (2, 4), (3, 26), (12, 9), (13, 9), (14, 4), (15, 3), (16, 3), (17, 3), (18, 28), (29, 4), (30, 3), (31, 29), (32, 30), (33, 31)], 0⟩),
 (34, ⟨[.int .i64], false, 8, [], 0⟩),
 (40, ⟨[.sl [.int .i64, .int .i64, .bool, .str, .str, .int .i64, .bool, .int .i64, .int .i64, .str, .int .i64, .sl [.str, .str], .str, .str, .bool, .int .i64, .int .i64, .int .i64, .bool, .int .i64, .str, .str, .int .i64, .bool, .int .i64, .int .i64, .str, .int .i64, .sl [.str, .str], .bool, .int .i64, .sl [.str, .int .i64, .bool], .sl [.str], .sl [.int .i64]]], false, 24, [], 33⟩),
 (47, ⟨[.str, .int .i64, .bool], true, 32, [(0, 9), (1, 3), (2, 4)], 0⟩),
 (49, ⟨[.int .i64], true, 8, [(0, 34)], 0⟩),
 (50, ⟨[.ptr], false, 8, [], 0⟩),
 (52, ⟨[.sl [.int .u8], .int .i64], true, 32, [(0, 22), (1, 3)], 0⟩),
 (60, ⟨[.sl [.bool]], false, 24, [], 4⟩),
 (80, ⟨[.str, .str], true, 32, [(0, 9), (1, 9)], 0⟩),
 (81, ⟨[.int .u64], false, 8, [], 0⟩),
 (87, ⟨[.int .i64, .int .i64, .int .i64, .int .i64, .int .i64, .int .i64, .int .i64, .bool, .bool, .bool, .bool, .str, .str], true, 96, [(0, 3), (1, 3), (2, 3), (3, 3), (4, 3), (5, 3), (6, 3), (7, 4), (8, 4), (9, 4), (10, 4), (11, 9), (12, 9)], 0⟩),
 (95, ⟨[.int .u64], false, 8, [], 0⟩)]
def fnL : List (Nat × Func) := [(32, Go.Proofs.Tryd.f32), (34, Go.Proofs.Tryd.f34), (50, Go.Proofs.Tryd.f50), (51, Go.Proofs.Tryd.f51), (52, Go.Proofs.Tryd.f52), (53, Go.Proofs.Tryd.f53), (54, Go.Proofs.Tryd.f54), (33, Go.Proofs.Tryd.f33), (55, Go.Proofs.Tryd.f55), (67, Go.Proofs.Tryd.f67), (61, Go.Proofs.Tryd.f61), (62, Go.Proofs.Tryd.f62), (68, Go.Proofs.Tryd.f68), (63, Go.Proofs.Tryd.f63), (56, Go.Proofs.Tryd.f56), (35, Go.Proofs.Tryd.f35), (36, Go.Proofs.Tryd.f36), (38, Go.Proofs.Tryd.f38), (37, Go.Proofs.Tryd.f37), (57, Go.Proofs.Tryd.f57), (72, Go.Proofs.Tryd.f72), (73, Go.Proofs.Tryd.f73), (69, Go.Proofs.Tryd.f69), (78, Go.Proofs.Tryd.f78), (76, Go.Proofs.Tryd.f76), (74, Go.Proofs.Tryd.f74), (70, Go.Proofs.Tryd.f70), (84, Go.Proofs.Tryd.f84), (83, Go.Proofs.Tryd.f83), (77, Go.Proofs.Tryd.f77), (75, Go.Proofs.Tryd.f75), (71, Go.Proofs.Tryd.f71), (65, Go.Proofs.Tryd.f65), (66, Go.Proofs.Tryd.f66), (64, Go.Proofs.Tryd.f64), (58, Go.Proofs.Tryd.f58), (39, Go.Proofs.Tryd.f39), (40, Go.Proofs.Tryd.f40), (41, Go.Proofs.Tryd.f41), (15, Go.Proofs.Tryd.f15), (43, Go.Proofs.Tryd.f43), (59, Go.Proofs.Tryd.f59), (42, Go.Proofs.Tryd.f42), (16, Go.Proofs.Tryd.f16), (44, Go.Proofs.Tryd.f44), (18, Go.Proofs.Tryd.f18), (19, Go.Proofs.Tryd.f19), (17, Go.Proofs.Tryd.f17), (20, Go.Proofs.Tryd.f20), (21, Go.Proofs.Tryd.f21), (6, Go.Proofs.Tryd.f6), (45, Go.Proofs.Tryd.f45), (22, Go.Proofs.Tryd.f22), (13, Go.Proofs.Tryd.f13), (12, Go.Proofs.Tryd.f12), (60, Go.Proofs.Tryd.f60), (47, Go.Proofs.Tryd.f47), (29, Go.Proofs.Tryd.f29), (48, Go.Proofs.Tryd.f48), (49, Go.Proofs.Tryd.f49), (30, Go.Proofs.Tryd.f30), (28, Go.Proofs.Tryd.f28), (31, Go.Proofs.Tryd.f31), (14, Go.Proofs.Tryd.f14), (5, Go.Proofs.Tryd.f5), (9, Go.Proofs.Tryd.f9), (8, Go.Proofs.Tryd.f8), (46, Go.Proofs.Tryd.f46), (23, Go.Proofs.Tryd.f23), (24, Go.Proofs.Tryd.f24), (25, Go.Proofs.Tryd.f25), (26, Go.Proofs.Tryd.f26), (27, Go.Proofs.Tryd.f27), (10, Go.Proofs.Tryd.f10), (4, Go.Proofs.Tryd.f4), (7, Go.Proofs.Tryd.f7), (3, Go.Proofs.Tryd.f3)]
def tmL : List (Nat × (List Sh × List (TypeId × List Sh))) := [(32, ([.bool], [])),
 (34, ([aA.sh], [])),
 (50, ([bO.sh], [])),
 (51, ([.bool], [])),
 (52, ([.bool], [])),
 (53, ([.bool], [])),
 (54, ([.bool], [])),
 (33, ([.bool], [])),
 (55, ([.bool], [])),
 (67, ([.bool], [])),
 (61, ([.bool], [])),
 (62, ([.bool], [])),
 (68, ([.bool], [])),
 (63, ([.int .i64], [])),
 (56, ([.int .i64], [])),
 (35, ([.int .i64], [])),
 (36, ([.bool], [])),
 (38, ([.int .i64], [])),
 (37, ([.int .i64], [])),
 (57, ([.int .i64], [])),
 (72, ([.bool], [])),
 (73, ([.str, .bool], [])),
 (69, ([.str, .bool], [])),
 (78, ([.int .i64], [])),
 (76, ([.int .i64], [])),
 (74, ([.str, .str, .bool], [])),
 (70, ([.str, .str, .bool], [])),
 (84, ([.int .i64], [])),
 (83, ([.int .i64], [])),
 (77, ([.sl [.str]], [])),
 (75, ([.sl [.str]], [])),
 (71, ([.sl [.str]], [])),
 (65, ([.bool], [])),
 (66, ([.bool], [])),
 (64, ([.str, .str, .bool], [])),
 (58, ([.bool, .bool], [])),
 (39, ([.int .i64], [])),
 (40, ([.int .i64], [])),
 (41, ([.int .i64], [])),
 (15, ([.int .i64], [])),
 (43, ([.row 0 [.int .u8] 5 1], [])),
 (59, ([.int .u64], [])),
 (42, ([.row 0 [.int .u8] 5 1], [])),
 (16, ([.row 0 [.int .u8] 5 1], [])),
 (44, ([.row 0 [.int .u8] 5 1], [])),
 (18, ([.int .i64], [])),
 (19, ([.row 0 [.int .u8] 5 1], [])),
 (17, ([.row 0 [.int .u8] 5 1], [])),
 (20, ([.row 0 [.int .u8] 5 1], [])),
 (21, ([.row 0 [.int .u8] 5 1], [])),
 (6, ([.row 0 [.int .u8] 5 1, .int .i64], [])),
 (45, ([.int .i64], [])),
 (22, ([.int .i64, .int .i64, .int .i64], [])),
 (13, ([], [])),
 (12, ([.int .i64], [(52, aE.shs)])),
 (60, ([.str, .int .i64, .int .i64], [])),
 (47, ([.str], [(52, aE.shs)])),
 (29, ([.int .i64], [(52, aE.shs)])),
 (48, ([.bool], [])),
 (49, ([.int .i64], [(52, aE.shs)])),
 (30, ([.agg [.str, .str, .int .i64, .bool, .int .i64, .int .i64, .str, .int .i64, .row 0 aB.ks 80 32]], [(52, aE.shs)])),
 (28, ([.agg [.int .i64, .int .i64, .bool, .str, .str, .int .i64, .bool, .int .i64, .int .i64, .str, .int .i64, .row 0 aB.ks 80 32, .str, .str, .bool, .int .i64, .int .i64, .int .i64, .bool, .int .i64, .str, .str, .int .i64, .bool, .int .i64, .int .i64, .str, .int .i64, .row 1 aB.ks 80 32, .bool, .int .i64, .row 2 aF.ks 47 32, .row 3 [.str] 9 16, .row 4 [.int .i64] 3 8]], [(52, aE.shs)])),
 (31, ([.agg [.int .i64, .int .i64, .bool, .str, .str, .int .i64, .bool, .int .i64, .int .i64, .str, .int .i64, .sl aB.ks, .str, .str, .bool, .int .i64, .int .i64, .int .i64, .bool, .int .i64, .str, .str, .int .i64, .bool, .int .i64, .int .i64, .str, .int .i64, .sl aB.ks, .bool, .int .i64, .row 0 aF.ks 47 32, .row 1 [.str] 9 16, .row 2 [.int .i64] 3 8]], [(52, aE.shs)])),
 (14, ([.agg [.int .i64, .int .i64, .bool, .str, .str, .int .i64, .bool, .int .i64, .int .i64, .str, .int .i64, .sl aB.ks, .str, .str, .bool, .int .i64, .int .i64, .int .i64, .bool, .int .i64, .str, .str, .int .i64, .bool, .int .i64, .int .i64, .str, .int .i64, .sl aB.ks, .bool, .int .i64, .row 0 aF.ks 47 32, .row 1 [.str] 9 16, .row 2 [.int .i64] 3 8]], [(52, aE.shs)])),
 (5, ([.agg [.int .i64, .int .i64, .bool, .str, .str, .int .i64, .bool, .int .i64, .int .i64, .str, .int .i64, .sl aB.ks, .str, .str, .bool, .int .i64, .int .i64, .int .i64, .bool, .int .i64, .str, .str, .int .i64, .bool, .int .i64, .int .i64, .str, .int .i64, .sl aB.ks, .bool, .int .i64, .row 0 aF.ks 47 32, .row 1 [.str] 9 16, .row 2 [.int .i64] 3 8], .int .i64], [])),
 (9, ([.row 0 [.int .u8] 5 1, .int .i64], [])),
 (8, ([.row 0 aA.ks 33 416, .int .i64], [])),
 (46, ([.bool], [])),
 (23, ([.bool], [])),
 (24, ([.bool], [])),
 (25, ([.bool], [])),
 (26, ([.bool], [])),
 (27, ([.bool], [])),
 (10, ([.bool], [])),
 (4, ([.bool], [])),
 (7, ([.bool], [])),
 (3, ([.bool], []))]
def mvL : List (Nat × Bool) := [(42, true), (31, true)]
def naL : List (Nat × List (List (Option (List CK × TypeId × Nat)))) := [(42, [[some ([.int .u8], 5, 1)], []]), (31, [[], [none, none, none, none, none, none, none, none, none, none, none, none, none, none, none, none, none, none, none, none, none, none, none, none, none, none, none, none, none, none, none, some (aF.ks, 47, 32), some ([.str], 9, 16), some ([.int .i64], 3, 8)]])]
def hlL : List (Nat × List (Nat × Hint)) := [(51, [(4, ⟨[(3, .ptr 1000000000 0), (71, .sl aB.ks), (72, .int .i64), (73, .int .i64)], [(26, aC.shs)], []⟩)]),
 (52, [(4, ⟨[(1, .sl aF.ks), (12, .sl aF.ks), (13, .int .i64), (14, .int .i64)], [], []⟩)]),
 (53, [(4, ⟨[(1, .sl [.str]), (12, .sl [.str]), (13, .int .i64), (14, .int .i64)], [], []⟩)]),
 (54, [(4, ⟨[(1, .sl [.int .i64]), (12, .sl [.int .i64]), (13, .int .i64), (14, .int .i64)], [], []⟩)]),
 (55, [(4, ⟨[(15, .it 4000)], [], []⟩)]),
 (67, [(5, ⟨[(3, .int .i64), (15, .it 4000)], [], []⟩)]),
 (61, [(4, ⟨[(9, .it 4000)], [], []⟩)]),
 (68, [(4, ⟨[(0, .str), (3, .int .i64)], [], []⟩)]),
 (63, [(4, ⟨[(0, .sl aB.ks), (8, .sl aB.ks), (9, .int .i64), (10, .int .i64)], [], []⟩)]),
 (83, [(6, ⟨[(0, .str), (1, .str), (5, .int .i64)], [], []⟩)]),
 (77, [(11, ⟨[(0, .str), (1, .str), (2, .int .i64), (3, .int .i64), (9, .row 3009 [.str] 9 16), (10, .int .i64)], [], []⟩)]),
 (65, [(6, ⟨[(3, .sl [.str]), (4, .bool), (15, .sl [.str]), (16, .int .i64), (17, .int .i64)], [], []⟩), (9, ⟨[(3, .sl [.str]), (4, .bool), (5, .int .i64), (6, .str), (15, .sl [.str]), (16, .int .i64), (17, .int .i64), (23, .it 4000)], [], []⟩)]),
 (39, [(5, ⟨[(18, .sl aF.ks), (19, .int .i64), (20, .int .i64)], [], []⟩)]),
 (40, [(5, ⟨[(16, .sl [.int .i64]), (17, .int .i64), (18, .int .i64)], [], []⟩)]),
 (41, [(5, ⟨[(18, .sl [.str]), (19, .int .i64), (20, .int .i64)], [], []⟩)]),
 (42, [(2, ⟨[(0, .row 3000 [.int .u8] 5 1), (5, .int .u64)], [], []⟩)]),
 (18, [(3, ⟨[(0, .sl [.bool]), (3, .int .i64), (4, .int .i64)], [], []⟩)]),
 (19, [(8, ⟨[(5, .row 3005 [.int .u8] 5 1), (45, .sl aB.ks), (46, .int .i64), (47, .int .i64)], [], []⟩)]),
 (17, [(4, ⟨[(3, .ptr 1000000000 0), (5, .row 3005 [.int .u8] 5 1), (30, .row 3030 [.int .i64] 3 8), (31, .int .i64), (32, .int .i64)], [(33, aA.shs)], []⟩)]),
 (20, [(3, ⟨[(5, .row 3005 [.int .u8] 5 1), (12, .sl aF.ks), (13, .int .i64), (14, .int .i64)], [], []⟩)]),
 (21, [(3, ⟨[(5, .row 3005 [.int .u8] 5 1), (13, .sl [.str]), (14, .int .i64), (15, .int .i64)], [], []⟩)]),
 (6, [(24, ⟨[(5, .row 3005 [.int .u8] 5 1), (79, .sl [.int .i64]), (80, .int .i64), (81, .int .i64)], [], []⟩)]),
 (22, [(6, ⟨[(0, .sl [.int .u8]), (1, .int .i64), (7, .int .u64), (8, .int .i64)], [], []⟩)]),
 (30, [(11, ⟨[(0, .ptr 2000000000 0), (2, .ptr 1000000000 0), (3, .ptr 1000000001 0), (32, .int .i64), (33, .int .i64)], [(26, aC.shs), (26, [.str, .str, .int .i64, .bool, .int .i64, .int .i64, .str, .int .i64, .row 50108 aB.ks 80 32])], [(52, aE.shs)]⟩)]),
 (31, [(3, ⟨[(0, .ptr 2000000000 0), (4, .ptr 1000000000 0), (5, .ptr 1000000001 0), (9, .int .i64), (10, .int .i64)], [(33, aA.shs), (33, [.int .i64, .int .i64, .bool, .str, .str, .int .i64, .bool, .int .i64, .int .i64, .str, .int .i64, .sl aB.ks, .str, .str, .bool, .int .i64, .int .i64, .int .i64, .bool, .int .i64, .str, .str, .int .i64, .bool, .int .i64, .int .i64, .str, .int .i64, .sl aB.ks, .bool, .int .i64, .row 50131 aF.ks 47 32, .row 50132 [.str] 9 16, .row 50133 [.int .i64] 3 8])], [(52, aE.shs)]⟩)]),
 (9, [(3, ⟨[(4, .row 3004 [.int .u8] 5 1), (9, .sl aA.ks), (10, .int .i64), (11, .int .i64)], [], []⟩)]),
 (8, [(3, ⟨[(0, .sl [.int .u8]), (4, .row 3004 aA.ks 33 416), (5, .int .i64)], [], []⟩)]),
 (46, [(4, ⟨[(0, .sl aB.ks), (1, .sl aB.ks), (5, .int .i64)], [], []⟩)]),
 (25, [(4, ⟨[(0, .sl aF.ks), (1, .sl aF.ks), (5, .int .i64)], [], []⟩)]),
 (26, [(4, ⟨[(0, .sl [.str]), (1, .sl [.str]), (5, .int .i64)], [], []⟩)]),
 (27, [(4, ⟨[(0, .sl [.int .i64]), (1, .sl [.int .i64]), (5, .int .i64)], [], []⟩)])]
def hrL : List (Nat × List (Nat × Hint)) := [(51, [(3, ⟨[(2, .ptr 1000000000 0), (3, .ptr 1000000001 0)], [(26, aC.shs), (26, aC.shs)], []⟩)]),
 (55, [(3, ⟨[(0, .str)], [], []⟩), (7, ⟨[(3, .int .i64), (4, .int .i32), (5, .bool), (15, .it 4000)], [], []⟩)]),
 (67, [(3, ⟨[(0, .str)], [], []⟩)]),
 (68, [(3, ⟨[(0, .str)], [], []⟩)]),
 (77, [(7, ⟨[(0, .str), (1, .str), (2, .int .i64), (3, .int .i64)], [], []⟩), (17, ⟨[(0, .str), (9, .row 3009 [.str] 9 16), (10, .int .i64)], [], []⟩)]),
 (18, [(5, ⟨[(0, .sl [.bool]), (3, .int .i64), (4, .int .i64), (10, .int .i64), (11, .bool)], [], []⟩)]),
 (22, [(3, ⟨[(0, .sl [.int .u8]), (1, .int .i64)], [], []⟩), (11, ⟨[(0, .sl [.int .u8]), (1, .int .i64), (7, .int .u64), (8, .int .i64), (9, .int .u8), (39, .int .i64), (40, .bool), (41, .bool), (44, .bool)], [], []⟩)]),
 (10, [(3, ⟨[(2, .ptr 1000000000 0), (3, .ptr 1000000001 0)], [(33, aA.shs), (33, aA.shs)], []⟩), (5, ⟨[(2, .ptr 1000000000 0), (3, .ptr 1000000001 0)], [(33, aA.shs), (33, aA.shs)], []⟩)]),
 (3, [(8, ⟨[(0, .sl [.int .u8])], [], []⟩)])]
def eqL : List (Nat × List CK) := [(47, [.str, .int .i64, .bool]), (80, [.str, .str]), (87, [.int .i64, .int .i64, .int .i64, .int .i64, .int .i64, .int .i64, .int .i64, .bool, .bool, .bool, .bool, .str, .str])]
def prL : List (Nat × Prim) := [(85, .indexByte), (89, .countByte)]
def gd5 : GuardI := guardOf Go.Proofs.Tryd.f5 Go.Proofs.Tryd.f11 49
def lbL : List (Nat × LibK) := [(5, .guard gd5)]
def pvL : List (Nat × Sh) := [(13, .ifc 49 aI.sh), (12, .ifc 49 aI.sh), (47, .ifc 49 aI.sh), (29, .ifc 49 aI.sh), (49, .ifc 49 aI.sh), (30, .ifc 49 aI.sh), (28, .ifc 49 aI.sh), (31, .ifc 49 aI.sh), (14, .ifc 49 aI.sh)]
def SE : Env := { fn := assoc fnL, ty := assoc tyL, tm := assoc tmL, mv := fun f => match assoc mvL f with | some b => b | none => false, eqt := assoc eqL, pv := assoc pvL, hl := fun f r => match assoc hlL f with | some l => assoc l r | none => none, hr := fun f r => match assoc hrL f with | some l => assoc l r | none => none, prim := assoc prL, lib := assoc lbL, na := fun f => match assoc naL f with | some l => l | none => [] }
def aH : (Bool) → Out := fun r => .ret [.d (.bool r)] [] []
theorem aU : ∀ y z, aH y = aH z → y = z := fun y z h => congrArg (fun o => bZ (avD (aL 0 (Out.res o)))) h
def kL : (aA) → Out := fun r => .ret [aA.av r] [] []
theorem afZ : ∀ y z, kL y = kL z → y = z := fun y z h => aA.inj (congrArg (fun o => List.map avD (cellsOf (aL 0 (Out.res o)))) h)
def iG : (bO) → Out := fun r => .ret [bO.av r] [] []
theorem vD : ∀ y z, iG y = iG z → y = z := fun y z h => bO.inj (congrArg (fun o => List.map avD (cellsOf (aL 0 (Out.res o)))) h)
def aJ : (Int) → Out := fun r => .ret [.d (.int .i64 r)] [] []
theorem bA : ∀ y z, aJ y = aJ z → y = z := fun y z h => congrArg (fun o => aY (avD (aL 0 (Out.res o)))) h
def cK : (Str × Bool) → Out := fun r => .ret [.d (.str r.1), .d (.bool r.2)] [] []
theorem pF : ∀ y z, cK y = cK z → y = z := fun y z h => Prod.ext (congrArg (fun o => bT (avD (aL 0 (Out.res o)))) h) (congrArg (fun o => bZ (avD (aL 1 (Out.res o)))) h)
def cI : (Str × Str × Bool) → Out := fun r => .ret [.d (.str r.1), .d (.str r.2.1), .d (.bool r.2.2)] [] []
theorem pA : ∀ y z, cI y = cI z → y = z := fun y z h => Prod.ext (congrArg (fun o => bT (avD (aL 0 (Out.res o)))) h) (Prod.ext (congrArg (fun o => bT (avD (aL 1 (Out.res o)))) h) (congrArg (fun o => bZ (avD (aL 2 (Out.res o)))) h))
def bX : ((List Str)) → Out := fun r => .ret [.d (.sl [.str] (List.map aV r))] [] []
theorem n8 : ∀ y z, bX y = bX z → y = z := fun y z h => map_inj aiO (congrArg (fun o => dSl (avD (aL 0 (Out.res o)))) h)
def fX : (Bool × Bool) → Out := fun r => .ret [.d (.bool r.1), .d (.bool r.2)] [] []
theorem wF : ∀ y z, fX y = fX z → y = z := fun y z h => Prod.ext (congrArg (fun o => bZ (avD (aL 0 (Out.res o)))) h) (congrArg (fun o => bZ (avD (aL 1 (Out.res o)))) h)
def aQ : ((List Int)) → Out := fun r => .ret [.row 0] [] [⟨[.int .u8], 5, 1, (List.map (aN .u8) r)⟩]
theorem aW : ∀ y z, aQ y = aQ z → y = z := fun y z h => map_inj (abD _) (congrArg (fun o => oD 0 (Out.rws o)) h)
def mI : (Int) → Out := fun r => .ret [.d (.int .u64 r)] [] []
theorem ahp : ∀ y z, mI y = mI z → y = z := fun y z h => congrArg (fun o => aY (avD (aL 0 (Out.res o)))) h
def cH : ((List Int) × Int) → Out := fun r => .ret [.row 0, .d (.int .i64 r.2)] [] [⟨[.int .u8], 5, 1, (List.map (aN .u8) r.1)⟩]
theorem mQ : ∀ y z, cH y = cH z → y = z := fun y z h => Prod.ext (map_inj (abD _) (congrArg (fun o => oD 0 (Out.rws o)) h)) (congrArg (fun o => aY (avD (aL 1 (Out.res o)))) h)
def eY : (Int × Int × Int) → Out := fun r => .ret [.d (.int .i64 r.1), .d (.int .i64 r.2.1), .d (.int .i64 r.2.2)] [] []
theorem yJ : ∀ y z, eY y = eY z → y = z := fun y z h => Prod.ext (congrArg (fun o => aY (avD (aL 0 (Out.res o)))) h) (Prod.ext (congrArg (fun o => aY (avD (aL 1 (Out.res o)))) h) (congrArg (fun o => aY (avD (aL 2 (Out.res o)))) h))
def tW : (Unit) → Out := fun r => .ret [] [] []
def eA : (aI ⊕ (Unit)) → Out := fun s => match s with | .inl q => .pan (.ifc 49 (aI.av q)) | .inr r => tW r
theorem agl : ∀ y z, tW y = tW z → y = z := fun y z h => rfl
theorem fD : ∀ y z, eA y = eA z → y = z := fun y z h => match y, z, h with
 | .inl a, .inl b, h => congrArg Sum.inl (aI.inj (congrArg (fun o => List.map avD (cellsOf (ab0 (Out.yQ o)))) h))
 | .inr a, .inr b, h => congrArg Sum.inr (agl a b h)
 | .inl _, .inr _, h => Bool.noConfusion (congrArg Out.j6 h : true = false)
 | .inr _, .inl _, h => Bool.noConfusion (congrArg Out.j6 h : false = true)
def lY : (Int × aE) → Out := fun r => .ret [.d (.int .i64 r.1)] [⟨52, (aE.avs r.2)⟩] []
def bQ : (aI ⊕ (Int × aE)) → Out := fun s => match s with | .inl q => .pan (.ifc 49 (aI.av q)) | .inr r => lY r
theorem yD : ∀ y z, lY y = lY z → y = z := fun y z h => Prod.ext (congrArg (fun o => aY (avD (aL 0 (Out.res o)))) h) (aE.inj (congrArg (fun o => List.map avD (abh 0 (Out.bxs o))) h))
theorem bC : ∀ y z, bQ y = bQ z → y = z := fun y z h => match y, z, h with
 | .inl a, .inl b, h => congrArg Sum.inl (aI.inj (congrArg (fun o => List.map avD (cellsOf (ab0 (Out.yQ o)))) h))
 | .inr a, .inr b, h => congrArg Sum.inr (yD a b h)
 | .inl _, .inr _, h => Bool.noConfusion (congrArg Out.j6 h : true = false)
 | .inr _, .inl _, h => Bool.noConfusion (congrArg Out.j6 h : false = true)
def kU : (Str × Int × Int) → Out := fun r => .ret [.d (.str r.1), .d (.int .i64 r.2.1), .d (.int .i64 r.2.2)] [] []
theorem ahB : ∀ y z, kU y = kU z → y = z := fun y z h => Prod.ext (congrArg (fun o => bT (avD (aL 0 (Out.res o)))) h) (Prod.ext (congrArg (fun o => aY (avD (aL 1 (Out.res o)))) h) (congrArg (fun o => aY (avD (aL 2 (Out.res o)))) h))
def lJ : (Str × aE) → Out := fun r => .ret [.d (.str r.1)] [⟨52, (aE.avs r.2)⟩] []
def cN : (aI ⊕ (Str × aE)) → Out := fun s => match s with | .inl q => .pan (.ifc 49 (aI.av q)) | .inr r => lJ r
theorem wM : ∀ y z, lJ y = lJ z → y = z := fun y z h => Prod.ext (congrArg (fun o => bT (avD (aL 0 (Out.res o)))) h) (aE.inj (congrArg (fun o => List.map avD (abh 0 (Out.bxs o))) h))
theorem dG : ∀ y z, cN y = cN z → y = z := fun y z h => match y, z, h with
 | .inl a, .inl b, h => congrArg Sum.inl (aI.inj (congrArg (fun o => List.map avD (cellsOf (ab0 (Out.yQ o)))) h))
 | .inr a, .inr b, h => congrArg Sum.inr (wM a b h)
 | .inl _, .inr _, h => Bool.noConfusion (congrArg Out.j6 h : true = false)
 | .inr _, .inl _, h => Bool.noConfusion (congrArg Out.j6 h : false = true)
def kV : (Int × aE) → Out := fun r => .ret [.d (.int .i64 r.1)] [⟨52, (aE.avs r.2)⟩] []
def cC : (aI ⊕ (Int × aE)) → Out := fun s => match s with | .inl q => .pan (.ifc 49 (aI.av q)) | .inr r => kV r
theorem wB : ∀ y z, kV y = kV z → y = z := fun y z h => Prod.ext (congrArg (fun o => aY (avD (aL 0 (Out.res o)))) h) (aE.inj (congrArg (fun o => List.map avD (abh 0 (Out.bxs o))) h))
theorem gH : ∀ y z, cC y = cC z → y = z := fun y z h => match y, z, h with
 | .inl a, .inl b, h => congrArg Sum.inl (aI.inj (congrArg (fun o => List.map avD (cellsOf (ab0 (Out.yQ o)))) h))
 | .inr a, .inr b, h => congrArg Sum.inr (wB a b h)
 | .inl _, .inr _, h => Bool.noConfusion (congrArg Out.j6 h : true = false)
 | .inr _, .inl _, h => Bool.noConfusion (congrArg Out.j6 h : false = true)
def kS : (Int × aE) → Out := fun r => .ret [.d (.int .i64 r.1)] [⟨52, (aE.avs r.2)⟩] []
def dI : (aI ⊕ (Int × aE)) → Out := fun s => match s with | .inl q => .pan (.ifc 49 (aI.av q)) | .inr r => kS r
theorem vZ : ∀ y z, kS y = kS z → y = z := fun y z h => Prod.ext (congrArg (fun o => aY (avD (aL 0 (Out.res o)))) h) (aE.inj (congrArg (fun o => List.map avD (abh 0 (Out.bxs o))) h))
theorem pG : ∀ y z, dI y = dI z → y = z := fun y z h => match y, z, h with
 | .inl a, .inl b, h => congrArg Sum.inl (aI.inj (congrArg (fun o => List.map avD (cellsOf (ab0 (Out.yQ o)))) h))
 | .inr a, .inr b, h => congrArg Sum.inr (vZ a b h)
 | .inl _, .inr _, h => Bool.noConfusion (congrArg Out.j6 h : true = false)
 | .inr _, .inl _, h => Bool.noConfusion (congrArg Out.j6 h : false = true)
def jX : (aC × aE) → Out := fun r => .ret [.agg [.d (.str r.1.Topic), .d (.str r.1.Payload), .d (.int .i64 r.1.Level), .d (.bool r.1.Retain), .d (.int .i64 r.1.Priority), .d (.int .i64 r.1.Expires), .d (.str r.1.From), .d (.int .i64 r.1.Seq), .row 0]] [⟨52, (aE.avs r.2)⟩] [⟨aB.ks, 80, 32, (List.map aB.enc r.1.Props)⟩]
def cM : (aI ⊕ (aC × aE)) → Out := fun s => match s with | .inl q => .pan (.ifc 49 (aI.av q)) | .inr r => jX r
theorem uL : ∀ y z, jX y = jX z → y = z := fun y z h => Prod.ext (aC.inj (congrArg (fun o => [avD (aL 0 (cellsOf (aL 0 (Out.res o)))), avD (aL 1 (cellsOf (aL 0 (Out.res o)))), avD (aL 2 (cellsOf (aL 0 (Out.res o)))), avD (aL 3 (cellsOf (aL 0 (Out.res o)))), avD (aL 4 (cellsOf (aL 0 (Out.res o)))), avD (aL 5 (cellsOf (aL 0 (Out.res o)))), avD (aL 6 (cellsOf (aL 0 (Out.res o)))), avD (aL 7 (cellsOf (aL 0 (Out.res o)))), D.sl aB.ks (oD 0 (Out.rws o))]) h)) (aE.inj (congrArg (fun o => List.map avD (abh 0 (Out.bxs o))) h))
theorem nS : ∀ y z, cM y = cM z → y = z := fun y z h => match y, z, h with
 | .inl a, .inl b, h => congrArg Sum.inl (aI.inj (congrArg (fun o => List.map avD (cellsOf (ab0 (Out.yQ o)))) h))
 | .inr a, .inr b, h => congrArg Sum.inr (uL a b h)
 | .inl _, .inr _, h => Bool.noConfusion (congrArg Out.j6 h : true = false)
 | .inr _, .inl _, h => Bool.noConfusion (congrArg Out.j6 h : false = true)
def jY : (aA × aE) → Out := fun r => .ret [.agg [.d (.int .i64 r.1.Kind), .d (.int .i64 r.1.ID), .d (.bool r.1.Dup), .d (.str r.1.Message.Topic), .d (.str r.1.Message.Payload), .d (.int .i64 r.1.Message.Level), .d (.bool r.1.Message.Retain), .d (.int .i64 r.1.Message.Priority), .d (.int .i64 r.1.Message.Expires), .d (.str r.1.Message.From), .d (.int .i64 r.1.Message.Seq), .row 0, .d (.str r.1.Client), .d (.str r.1.User), .d (.bool r.1.Clean), .d (.int .i64 r.1.Keep), .d (.int .i64 r.1.Expiry), .d (.int .i64 r.1.Window), .d (.bool r.1.Will.Set), .d (.int .i64 r.1.Will.Delay), .d (.str r.1.Will.Message.Topic), .d (.str r.1.Will.Message.Payload), .d (.int .i64 r.1.Will.Message.Level), .d (.bool r.1.Will.Message.Retain), .d (.int .i64 r.1.Will.Message.Priority), .d (.int .i64 r.1.Will.Message.Expires), .d (.str r.1.Will.Message.From), .d (.int .i64 r.1.Will.Message.Seq), .row 1, .d (.bool r.1.Present), .d (.int .i64 r.1.Code), .row 2, .row 3, .row 4]] [⟨52, (aE.avs r.2)⟩] [⟨aB.ks, 80, 32, (List.map aB.enc r.1.Message.Props)⟩, ⟨aB.ks, 80, 32, (List.map aB.enc r.1.Will.Message.Props)⟩, ⟨aF.ks, 47, 32, (List.map aF.enc r.1.Subs)⟩, ⟨[.str], 9, 16, (List.map aV r.1.Filters)⟩, ⟨[.int .i64], 3, 8, (List.map (aN .i64) r.1.Codes)⟩]
def eJ : (aI ⊕ (aA × aE)) → Out := fun s => match s with | .inl q => .pan (.ifc 49 (aI.av q)) | .inr r => jY r
theorem uM : ∀ y z, jY y = jY z → y = z := fun y z h => Prod.ext (aA.inj (congrArg (fun o => [avD (aL 0 (cellsOf (aL 0 (Out.res o)))), avD (aL 1 (cellsOf (aL 0 (Out.res o)))), avD (aL 2 (cellsOf (aL 0 (Out.res o)))), avD (aL 3 (cellsOf (aL 0 (Out.res o)))), avD (aL 4 (cellsOf (aL 0 (Out.res o)))), avD (aL 5 (cellsOf (aL 0 (Out.res o)))), avD (aL 6 (cellsOf (aL 0 (Out.res o)))), avD (aL 7 (cellsOf (aL 0 (Out.res o)))), avD (aL 8 (cellsOf (aL 0 (Out.res o)))), avD (aL 9 (cellsOf (aL 0 (Out.res o)))), avD (aL 10 (cellsOf (aL 0 (Out.res o)))), D.sl aB.ks (oD 0 (Out.rws o)), avD (aL 12 (cellsOf (aL 0 (Out.res o)))), avD (aL 13 (cellsOf (aL 0 (Out.res o)))), avD (aL 14 (cellsOf (aL 0 (Out.res o)))), avD (aL 15 (cellsOf (aL 0 (Out.res o)))), avD (aL 16 (cellsOf (aL 0 (Out.res o)))), avD (aL 17 (cellsOf (aL 0 (Out.res o)))), avD (aL 18 (cellsOf (aL 0 (Out.res o)))), avD (aL 19 (cellsOf (aL 0 (Out.res o)))), avD (aL 20 (cellsOf (aL 0 (Out.res o)))), avD (aL 21 (cellsOf (aL 0 (Out.res o)))), avD (aL 22 (cellsOf (aL 0 (Out.res o)))), avD (aL 23 (cellsOf (aL 0 (Out.res o)))), avD (aL 24 (cellsOf (aL 0 (Out.res o)))), avD (aL 25 (cellsOf (aL 0 (Out.res o)))), avD (aL 26 (cellsOf (aL 0 (Out.res o)))), avD (aL 27 (cellsOf (aL 0 (Out.res o)))), D.sl aB.ks (oD 1 (Out.rws o)), avD (aL 29 (cellsOf (aL 0 (Out.res o)))), avD (aL 30 (cellsOf (aL 0 (Out.res o)))), D.sl aF.ks (oD 2 (Out.rws o)), D.sl [.str] (oD 3 (Out.rws o)), D.sl [.int .i64] (oD 4 (Out.rws o))]) h)) (aE.inj (congrArg (fun o => List.map avD (abh 0 (Out.bxs o))) h))
theorem vK : ∀ y z, eJ y = eJ z → y = z := fun y z h => match y, z, h with
 | .inl a, .inl b, h => congrArg Sum.inl (aI.inj (congrArg (fun o => List.map avD (cellsOf (ab0 (Out.yQ o)))) h))
 | .inr a, .inr b, h => congrArg Sum.inr (uM a b h)
 | .inl _, .inr _, h => Bool.noConfusion (congrArg Out.j6 h : true = false)
 | .inr _, .inl _, h => Bool.noConfusion (congrArg Out.j6 h : false = true)
def kT : (aA × aE) → Out := fun r => .ret [.agg [.d (.int .i64 r.1.Kind), .d (.int .i64 r.1.ID), .d (.bool r.1.Dup), .d (.str r.1.Message.Topic), .d (.str r.1.Message.Payload), .d (.int .i64 r.1.Message.Level), .d (.bool r.1.Message.Retain), .d (.int .i64 r.1.Message.Priority), .d (.int .i64 r.1.Message.Expires), .d (.str r.1.Message.From), .d (.int .i64 r.1.Message.Seq), .d (.sl aB.ks (List.map aB.enc r.1.Message.Props)), .d (.str r.1.Client), .d (.str r.1.User), .d (.bool r.1.Clean), .d (.int .i64 r.1.Keep), .d (.int .i64 r.1.Expiry), .d (.int .i64 r.1.Window), .d (.bool r.1.Will.Set), .d (.int .i64 r.1.Will.Delay), .d (.str r.1.Will.Message.Topic), .d (.str r.1.Will.Message.Payload), .d (.int .i64 r.1.Will.Message.Level), .d (.bool r.1.Will.Message.Retain), .d (.int .i64 r.1.Will.Message.Priority), .d (.int .i64 r.1.Will.Message.Expires), .d (.str r.1.Will.Message.From), .d (.int .i64 r.1.Will.Message.Seq), .d (.sl aB.ks (List.map aB.enc r.1.Will.Message.Props)), .d (.bool r.1.Present), .d (.int .i64 r.1.Code), .row 0, .row 1, .row 2]] [⟨52, (aE.avs r.2)⟩] [⟨aF.ks, 47, 32, (List.map aF.enc r.1.Subs)⟩, ⟨[.str], 9, 16, (List.map aV r.1.Filters)⟩, ⟨[.int .i64], 3, 8, (List.map (aN .i64) r.1.Codes)⟩]
def dS : (aI ⊕ (aA × aE)) → Out := fun s => match s with | .inl q => .pan (.ifc 49 (aI.av q)) | .inr r => kT r
theorem vS : ∀ y z, kT y = kT z → y = z := fun y z h => Prod.ext (aA.inj (congrArg (fun o => [avD (aL 0 (cellsOf (aL 0 (Out.res o)))), avD (aL 1 (cellsOf (aL 0 (Out.res o)))), avD (aL 2 (cellsOf (aL 0 (Out.res o)))), avD (aL 3 (cellsOf (aL 0 (Out.res o)))), avD (aL 4 (cellsOf (aL 0 (Out.res o)))), avD (aL 5 (cellsOf (aL 0 (Out.res o)))), avD (aL 6 (cellsOf (aL 0 (Out.res o)))), avD (aL 7 (cellsOf (aL 0 (Out.res o)))), avD (aL 8 (cellsOf (aL 0 (Out.res o)))), avD (aL 9 (cellsOf (aL 0 (Out.res o)))), avD (aL 10 (cellsOf (aL 0 (Out.res o)))), avD (aL 11 (cellsOf (aL 0 (Out.res o)))), avD (aL 12 (cellsOf (aL 0 (Out.res o)))), avD (aL 13 (cellsOf (aL 0 (Out.res o)))), avD (aL 14 (cellsOf (aL 0 (Out.res o)))), avD (aL 15 (cellsOf (aL 0 (Out.res o)))), avD (aL 16 (cellsOf (aL 0 (Out.res o)))), avD (aL 17 (cellsOf (aL 0 (Out.res o)))), avD (aL 18 (cellsOf (aL 0 (Out.res o)))), avD (aL 19 (cellsOf (aL 0 (Out.res o)))), avD (aL 20 (cellsOf (aL 0 (Out.res o)))), avD (aL 21 (cellsOf (aL 0 (Out.res o)))), avD (aL 22 (cellsOf (aL 0 (Out.res o)))), avD (aL 23 (cellsOf (aL 0 (Out.res o)))), avD (aL 24 (cellsOf (aL 0 (Out.res o)))), avD (aL 25 (cellsOf (aL 0 (Out.res o)))), avD (aL 26 (cellsOf (aL 0 (Out.res o)))), avD (aL 27 (cellsOf (aL 0 (Out.res o)))), avD (aL 28 (cellsOf (aL 0 (Out.res o)))), avD (aL 29 (cellsOf (aL 0 (Out.res o)))), avD (aL 30 (cellsOf (aL 0 (Out.res o)))), D.sl aF.ks (oD 0 (Out.rws o)), D.sl [.str] (oD 1 (Out.rws o)), D.sl [.int .i64] (oD 2 (Out.rws o))]) h)) (aE.inj (congrArg (fun o => List.map avD (abh 0 (Out.bxs o))) h))
theorem iN : ∀ y z, dS y = dS z → y = z := fun y z h => match y, z, h with
 | .inl a, .inl b, h => congrArg Sum.inl (aI.inj (congrArg (fun o => List.map avD (cellsOf (ab0 (Out.yQ o)))) h))
 | .inr a, .inr b, h => congrArg Sum.inr (vS a b h)
 | .inl _, .inr _, h => Bool.noConfusion (congrArg Out.j6 h : true = false)
 | .inr _, .inl _, h => Bool.noConfusion (congrArg Out.j6 h : false = true)
def kB : (aA × aE) → Out := fun r => .ret [.agg [.d (.int .i64 r.1.Kind), .d (.int .i64 r.1.ID), .d (.bool r.1.Dup), .d (.str r.1.Message.Topic), .d (.str r.1.Message.Payload), .d (.int .i64 r.1.Message.Level), .d (.bool r.1.Message.Retain), .d (.int .i64 r.1.Message.Priority), .d (.int .i64 r.1.Message.Expires), .d (.str r.1.Message.From), .d (.int .i64 r.1.Message.Seq), .d (.sl aB.ks (List.map aB.enc r.1.Message.Props)), .d (.str r.1.Client), .d (.str r.1.User), .d (.bool r.1.Clean), .d (.int .i64 r.1.Keep), .d (.int .i64 r.1.Expiry), .d (.int .i64 r.1.Window), .d (.bool r.1.Will.Set), .d (.int .i64 r.1.Will.Delay), .d (.str r.1.Will.Message.Topic), .d (.str r.1.Will.Message.Payload), .d (.int .i64 r.1.Will.Message.Level), .d (.bool r.1.Will.Message.Retain), .d (.int .i64 r.1.Will.Message.Priority), .d (.int .i64 r.1.Will.Message.Expires), .d (.str r.1.Will.Message.From), .d (.int .i64 r.1.Will.Message.Seq), .d (.sl aB.ks (List.map aB.enc r.1.Will.Message.Props)), .d (.bool r.1.Present), .d (.int .i64 r.1.Code), .row 0, .row 1, .row 2]] [⟨52, (aE.avs r.2)⟩] [⟨aF.ks, 47, 32, (List.map aF.enc r.1.Subs)⟩, ⟨[.str], 9, 16, (List.map aV r.1.Filters)⟩, ⟨[.int .i64], 3, 8, (List.map (aN .i64) r.1.Codes)⟩]
def eS : (aI ⊕ (aA × aE)) → Out := fun s => match s with | .inl q => .pan (.ifc 49 (aI.av q)) | .inr r => kB r
theorem vM : ∀ y z, kB y = kB z → y = z := fun y z h => Prod.ext (aA.inj (congrArg (fun o => [avD (aL 0 (cellsOf (aL 0 (Out.res o)))), avD (aL 1 (cellsOf (aL 0 (Out.res o)))), avD (aL 2 (cellsOf (aL 0 (Out.res o)))), avD (aL 3 (cellsOf (aL 0 (Out.res o)))), avD (aL 4 (cellsOf (aL 0 (Out.res o)))), avD (aL 5 (cellsOf (aL 0 (Out.res o)))), avD (aL 6 (cellsOf (aL 0 (Out.res o)))), avD (aL 7 (cellsOf (aL 0 (Out.res o)))), avD (aL 8 (cellsOf (aL 0 (Out.res o)))), avD (aL 9 (cellsOf (aL 0 (Out.res o)))), avD (aL 10 (cellsOf (aL 0 (Out.res o)))), avD (aL 11 (cellsOf (aL 0 (Out.res o)))), avD (aL 12 (cellsOf (aL 0 (Out.res o)))), avD (aL 13 (cellsOf (aL 0 (Out.res o)))), avD (aL 14 (cellsOf (aL 0 (Out.res o)))), avD (aL 15 (cellsOf (aL 0 (Out.res o)))), avD (aL 16 (cellsOf (aL 0 (Out.res o)))), avD (aL 17 (cellsOf (aL 0 (Out.res o)))), avD (aL 18 (cellsOf (aL 0 (Out.res o)))), avD (aL 19 (cellsOf (aL 0 (Out.res o)))), avD (aL 20 (cellsOf (aL 0 (Out.res o)))), avD (aL 21 (cellsOf (aL 0 (Out.res o)))), avD (aL 22 (cellsOf (aL 0 (Out.res o)))), avD (aL 23 (cellsOf (aL 0 (Out.res o)))), avD (aL 24 (cellsOf (aL 0 (Out.res o)))), avD (aL 25 (cellsOf (aL 0 (Out.res o)))), avD (aL 26 (cellsOf (aL 0 (Out.res o)))), avD (aL 27 (cellsOf (aL 0 (Out.res o)))), avD (aL 28 (cellsOf (aL 0 (Out.res o)))), avD (aL 29 (cellsOf (aL 0 (Out.res o)))), avD (aL 30 (cellsOf (aL 0 (Out.res o)))), D.sl aF.ks (oD 0 (Out.rws o)), D.sl [.str] (oD 1 (Out.rws o)), D.sl [.int .i64] (oD 2 (Out.rws o))]) h)) (aE.inj (congrArg (fun o => List.map avD (abh 0 (Out.bxs o))) h))
theorem oO : ∀ y z, eS y = eS z → y = z := fun y z h => match y, z, h with
 | .inl a, .inl b, h => congrArg Sum.inl (aI.inj (congrArg (fun o => List.map avD (cellsOf (ab0 (Out.yQ o)))) h))
 | .inr a, .inr b, h => congrArg Sum.inr (vM a b h)
 | .inl _, .inr _, h => Bool.noConfusion (congrArg Out.j6 h : true = false)
 | .inr _, .inl _, h => Bool.noConfusion (congrArg Out.j6 h : false = true)
def fK : (aA × Int) → Out := fun r => .ret [.agg [.d (.int .i64 r.1.Kind), .d (.int .i64 r.1.ID), .d (.bool r.1.Dup), .d (.str r.1.Message.Topic), .d (.str r.1.Message.Payload), .d (.int .i64 r.1.Message.Level), .d (.bool r.1.Message.Retain), .d (.int .i64 r.1.Message.Priority), .d (.int .i64 r.1.Message.Expires), .d (.str r.1.Message.From), .d (.int .i64 r.1.Message.Seq), .d (.sl aB.ks (List.map aB.enc r.1.Message.Props)), .d (.str r.1.Client), .d (.str r.1.User), .d (.bool r.1.Clean), .d (.int .i64 r.1.Keep), .d (.int .i64 r.1.Expiry), .d (.int .i64 r.1.Window), .d (.bool r.1.Will.Set), .d (.int .i64 r.1.Will.Delay), .d (.str r.1.Will.Message.Topic), .d (.str r.1.Will.Message.Payload), .d (.int .i64 r.1.Will.Message.Level), .d (.bool r.1.Will.Message.Retain), .d (.int .i64 r.1.Will.Message.Priority), .d (.int .i64 r.1.Will.Message.Expires), .d (.str r.1.Will.Message.From), .d (.int .i64 r.1.Will.Message.Seq), .d (.sl aB.ks (List.map aB.enc r.1.Will.Message.Props)), .d (.bool r.1.Present), .d (.int .i64 r.1.Code), .row 0, .row 1, .row 2], .d (.int .i64 r.2)] [] [⟨aF.ks, 47, 32, (List.map aF.enc r.1.Subs)⟩, ⟨[.str], 9, 16, (List.map aV r.1.Filters)⟩, ⟨[.int .i64], 3, 8, (List.map (aN .i64) r.1.Codes)⟩]
theorem tO : ∀ y z, fK y = fK z → y = z := fun y z h => Prod.ext (aA.inj (congrArg (fun o => [avD (aL 0 (cellsOf (aL 0 (Out.res o)))), avD (aL 1 (cellsOf (aL 0 (Out.res o)))), avD (aL 2 (cellsOf (aL 0 (Out.res o)))), avD (aL 3 (cellsOf (aL 0 (Out.res o)))), avD (aL 4 (cellsOf (aL 0 (Out.res o)))), avD (aL 5 (cellsOf (aL 0 (Out.res o)))), avD (aL 6 (cellsOf (aL 0 (Out.res o)))), avD (aL 7 (cellsOf (aL 0 (Out.res o)))), avD (aL 8 (cellsOf (aL 0 (Out.res o)))), avD (aL 9 (cellsOf (aL 0 (Out.res o)))), avD (aL 10 (cellsOf (aL 0 (Out.res o)))), avD (aL 11 (cellsOf (aL 0 (Out.res o)))), avD (aL 12 (cellsOf (aL 0 (Out.res o)))), avD (aL 13 (cellsOf (aL 0 (Out.res o)))), avD (aL 14 (cellsOf (aL 0 (Out.res o)))), avD (aL 15 (cellsOf (aL 0 (Out.res o)))), avD (aL 16 (cellsOf (aL 0 (Out.res o)))), avD (aL 17 (cellsOf (aL 0 (Out.res o)))), avD (aL 18 (cellsOf (aL 0 (Out.res o)))), avD (aL 19 (cellsOf (aL 0 (Out.res o)))), avD (aL 20 (cellsOf (aL 0 (Out.res o)))), avD (aL 21 (cellsOf (aL 0 (Out.res o)))), avD (aL 22 (cellsOf (aL 0 (Out.res o)))), avD (aL 23 (cellsOf (aL 0 (Out.res o)))), avD (aL 24 (cellsOf (aL 0 (Out.res o)))), avD (aL 25 (cellsOf (aL 0 (Out.res o)))), avD (aL 26 (cellsOf (aL 0 (Out.res o)))), avD (aL 27 (cellsOf (aL 0 (Out.res o)))), avD (aL 28 (cellsOf (aL 0 (Out.res o)))), avD (aL 29 (cellsOf (aL 0 (Out.res o)))), avD (aL 30 (cellsOf (aL 0 (Out.res o)))), D.sl aF.ks (oD 0 (Out.rws o)), D.sl [.str] (oD 1 (Out.rws o)), D.sl [.int .i64] (oD 2 (Out.rws o))]) h)) (congrArg (fun o => aY (avD (aL 1 (Out.res o)))) h)
def eW : ((List aA) × Int) → Out := fun r => .ret [.row 0, .d (.int .i64 r.2)] [] [⟨aA.ks, 33, 416, (List.map aA.enc r.1)⟩]
theorem vO : ∀ y z, eW y = eW z → y = z := fun y z h => Prod.ext (map_inj aA.inj (congrArg (fun o => oD 0 (Out.rws o)) h)) (congrArg (fun o => aY (avD (aL 1 (Out.res o)))) h)
def good : FuncId → Out → Prop := fun f o => match f with | 32 => ∃ x, aH x = o | 34 => ∃ x, kL x = o | 50 => ∃ x, iG x = o | 51 => ∃ x, aH x = o | 52 => ∃ x, aH x = o | 53 => ∃ x, aH x = o | 54 => ∃ x, aH x = o | 33 => ∃ x, aH x = o | 55 => ∃ x, aH x = o | 67 => ∃ x, aH x = o | 61 => ∃ x, aH x = o | 62 => ∃ x, aH x = o | 68 => ∃ x, aH x = o | 63 => ∃ x, aJ x = o | 56 => ∃ x, aJ x = o | 35 => ∃ x, aJ x = o | 36 => ∃ x, aH x = o | 38 => ∃ x, aJ x = o | 37 => ∃ x, aJ x = o | 57 => ∃ x, aJ x = o | 72 => ∃ x, aH x = o | 73 => ∃ x, cK x = o | 69 => ∃ x, cK x = o | 78 => ∃ x, aJ x = o | 76 => ∃ x, aJ x = o | 74 => ∃ x, cI x = o | 70 => ∃ x, cI x = o | 84 => ∃ x, aJ x = o | 83 => ∃ x, aJ x = o | 77 => ∃ x, bX x = o | 75 => ∃ x, bX x = o | 71 => ∃ x, bX x = o | 65 => ∃ x, aH x = o | 66 => ∃ x, aH x = o | 64 => ∃ x, cI x = o | 58 => ∃ x, fX x = o | 39 => ∃ x, aJ x = o | 40 => ∃ x, aJ x = o | 41 => ∃ x, aJ x = o | 15 => ∃ x, aJ x = o | 43 => ∃ x, aQ x = o | 59 => ∃ x, mI x = o | 42 => ∃ x, aQ x = o | 16 => ∃ x, aQ x = o | 44 => ∃ x, aQ x = o | 18 => ∃ x, aJ x = o | 19 => ∃ x, aQ x = o | 17 => ∃ x, aQ x = o | 20 => ∃ x, aQ x = o | 21 => ∃ x, aQ x = o | 6 => ∃ x, cH x = o | 45 => ∃ x, aJ x = o | 22 => ∃ x, eY x = o | 13 => ∃ x, eA x = o | 12 => ∃ x, bQ x = o | 60 => ∃ x, kU x = o | 47 => ∃ x, cN x = o | 29 => ∃ x, cC x = o | 48 => ∃ x, aH x = o | 49 => ∃ x, dI x = o | 30 => ∃ x, cM x = o | 28 => ∃ x, eJ x = o | 31 => ∃ x, dS x = o | 14 => ∃ x, eS x = o | 5 => ∃ x, fK x = o | 9 => ∃ x, cH x = o | 8 => ∃ x, eW x = o | 46 => ∃ x, aH x = o | 23 => ∃ x, aH x = o | 24 => ∃ x, aH x = o | 25 => ∃ x, aH x = o | 26 => ∃ x, aH x = o | 27 => ∃ x, aH x = o | 10 => ∃ x, aH x = o | 4 => ∃ x, aH x = o | 7 => ∃ x, aH x = o | 3 => ∃ x, aH x = o | _ => False
abbrev cT {R : Type} (g : FuncId) (out : R → Out) : Gm R := adz SE good g out
noncomputable abbrev gG : Fun := kM SE good
noncomputable abbrev cP {Q R : Type} (g : FuncId) (out : Q ⊕ R → Out) : Gp Q R := afj SE good g out
end Te
end PX
