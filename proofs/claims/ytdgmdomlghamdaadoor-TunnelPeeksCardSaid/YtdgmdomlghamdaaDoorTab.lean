import Derived.Test.YtdgmdomlghamdaaDoorMod
import Derived.Test.YtdgmdomlghamdaaDoorProg
set_option linter.unusedVariables false
set_option linter.unusedSimpArgs false
noncomputable section
namespace PX
open Go
open Md
namespace Te
def tyL : List (Nat × TI) := [(3, ⟨[.int .i64], false, 8, [], 0⟩),
 (4, ⟨[.bool], false, 1, [], 0⟩),
 (5, ⟨[.int .u8], false, 1, [], 0⟩),
 (9, ⟨[.str], false, 16, [], 0⟩),
 (21, ⟨[.int .i32], false, 4, [], 0⟩),
 (23, ⟨[.int .i64, .int .i64, .int .i64, .bool], true, 32, [(0, 3), (1, 3), (2, 3), (3, 4)], 0⟩),
 (28, ⟨[.sl [.int .u8]], false, 24, [], 5⟩),
 (29, ⟨[.int .i64], false, 8, [], 0⟩),
 (35, ⟨[.sl [.int .i64, .int .i64, .bool, .str, .str, .int .i64, .bool, .int .i64, .int .i64, .str, .int .i64, .sl [.str, .str], .str, .str, .bool, .int .i64, .int .i64, .int .i64, .bool, .int .i64, .str, .str, .int .i64, .bool, .int .i64, .int .i64, .str, .int .i64, .sl [.str, .str], .bool, .int .i64, .sl [.str, .int .i64, .bool], .sl [.str], .sl [.int .i64]]], false, 24, [], 58⟩),
 (49, ⟨[.sl [.str, .str]], false, 24, [], 91⟩),
 (51, ⟨[.str, .str, .int .i64, .bool, .int .i64, .int .i64, .str, .int .i64, .sl [.str, .str]], true, 112, [(0, 9), (1, 9), (2, 3), (3, 4), (4, 3), (5, 3), (6, 9), (7, 3), (8, 49)], 0⟩),
 (53, ⟨[.bool, .int .i64, .str, .str, .int .i64, .bool, .int .i64, .int .i64, .str, .int .i64, .sl [.str, .str]], true, 128, [(0, 4), (1, 3), (2, 51)], 0⟩),
 (54, ⟨[.sl [.str, .int .i64, .bool]], false, 24, [], 93⟩),
 (55, ⟨[.sl [.str]], false, 24, [], 9⟩),
 (56, ⟨[.sl [.int .i64]], false, 24, [], 3⟩),
 (58, ⟨[.int .i64, .int .i64, .bool, .str, .str, .int .i64, .bool, .int .i64, .int .i64, .str, .int .i64, .sl [.str, .str], .str, .str, .bool, .int .i64, .int .i64, .int .i64, .bool, .int .i64, .str, .str, .int .i64, .bool, .int .i64, .int .i64, .str, .int .i64, .sl [.str, .str], .bool, .int .i64, .sl [.str, .int .i64, .bool], .sl [.str], .sl [.int .i64]], true, 416, [(0, 3), (1, 3), (2, 4), (3, 51), (12, 9), (13, 9), (14, 4), (15, 3), (16, 3), (17, 3), (18, 53), (29, 4), (30, 3), (31, 54), (32, 55), (33, 56)], 0⟩),
 (61, ⟨[.int .u64], false, 8, [], 0⟩),
 (64, ⟨[.int .u64], false, 8, [], 0⟩),
 (70, ⟨[.sl [.bool]], false, 24, [], 4⟩),
 (75, ⟨[.int .u32], false, 4, [], 0⟩),
 (77, ⟨[.int .i64], true, 8, [(0, 29)], 0⟩),
 (78, ⟨[.ptr], false, 8, [], 0⟩),
 (80, ⟨[.sl [.int .u8], .int .i64], true, 32, [(0, 28), (1, 3)], 0⟩),
 (91, ⟨[.str, .str], true, 32, [(0, 9), (1, 9)], 0⟩),
 (93, ⟨[.str, .int .i64, .bool], true, 32, [(0, 9), (1, 3), (2, 4)], 0⟩),
 (98, ⟨[.int .i64, .int .i64, .int .i64, .int .i64, .int .i64, .int .i64, .int .i64, .bool, .bool, .bool, .bool, .str, .str], true, 96, [(0, 3), (1, 3), (2, 3), (3, 3), (4, 3), (5, 3), (6, 3), (7, 4), (8, 4), (9, 4), (10, 4), (11, 9), (12, 9)], 0⟩)]
def fnL : List (Nat × Func) := [(5, Go.Proofs.Tryd.f5), (46, Go.Proofs.Tryd.f46), (48, Go.Proofs.Tryd.f48), (62, Go.Proofs.Tryd.f62), (63, Go.Proofs.Tryd.f63), (64, Go.Proofs.Tryd.f64), (65, Go.Proofs.Tryd.f65), (66, Go.Proofs.Tryd.f66), (47, Go.Proofs.Tryd.f47), (67, Go.Proofs.Tryd.f67), (81, Go.Proofs.Tryd.f81), (74, Go.Proofs.Tryd.f74), (75, Go.Proofs.Tryd.f75), (82, Go.Proofs.Tryd.f82), (76, Go.Proofs.Tryd.f76), (68, Go.Proofs.Tryd.f68), (49, Go.Proofs.Tryd.f49), (50, Go.Proofs.Tryd.f50), (52, Go.Proofs.Tryd.f52), (51, Go.Proofs.Tryd.f51), (69, Go.Proofs.Tryd.f69), (86, Go.Proofs.Tryd.f86), (87, Go.Proofs.Tryd.f87), (83, Go.Proofs.Tryd.f83), (92, Go.Proofs.Tryd.f92), (90, Go.Proofs.Tryd.f90), (88, Go.Proofs.Tryd.f88), (84, Go.Proofs.Tryd.f84), (98, Go.Proofs.Tryd.f98), (97, Go.Proofs.Tryd.f97), (91, Go.Proofs.Tryd.f91), (89, Go.Proofs.Tryd.f89), (85, Go.Proofs.Tryd.f85), (78, Go.Proofs.Tryd.f78), (79, Go.Proofs.Tryd.f79), (77, Go.Proofs.Tryd.f77), (70, Go.Proofs.Tryd.f70), (53, Go.Proofs.Tryd.f53), (54, Go.Proofs.Tryd.f54), (55, Go.Proofs.Tryd.f55), (33, Go.Proofs.Tryd.f33), (26, Go.Proofs.Tryd.f26), (39, Go.Proofs.Tryd.f39), (25, Go.Proofs.Tryd.f25), (17, Go.Proofs.Tryd.f17), (56, Go.Proofs.Tryd.f56), (35, Go.Proofs.Tryd.f35), (36, Go.Proofs.Tryd.f36), (34, Go.Proofs.Tryd.f34), (37, Go.Proofs.Tryd.f37), (38, Go.Proofs.Tryd.f38), (24, Go.Proofs.Tryd.f24), (16, Go.Proofs.Tryd.f16), (27, Go.Proofs.Tryd.f27), (18, Go.Proofs.Tryd.f18), (12, Go.Proofs.Tryd.f12), (29, Go.Proofs.Tryd.f29), (21, Go.Proofs.Tryd.f21), (20, Go.Proofs.Tryd.f20), (14, Go.Proofs.Tryd.f14), (10, Go.Proofs.Tryd.f10), (42, Go.Proofs.Tryd.f42), (41, Go.Proofs.Tryd.f41), (80, Go.Proofs.Tryd.f80), (71, Go.Proofs.Tryd.f71), (58, Go.Proofs.Tryd.f58), (72, Go.Proofs.Tryd.f72), (73, Go.Proofs.Tryd.f73), (59, Go.Proofs.Tryd.f59), (57, Go.Proofs.Tryd.f57), (60, Go.Proofs.Tryd.f60), (43, Go.Proofs.Tryd.f43), (28, Go.Proofs.Tryd.f28), (19, Go.Proofs.Tryd.f19), (7, Go.Proofs.Tryd.f7), (13, Go.Proofs.Tryd.f13), (9, Go.Proofs.Tryd.f9), (32, Go.Proofs.Tryd.f32), (23, Go.Proofs.Tryd.f23), (30, Go.Proofs.Tryd.f30), (44, Go.Proofs.Tryd.f44), (61, Go.Proofs.Tryd.f61), (45, Go.Proofs.Tryd.f45), (31, Go.Proofs.Tryd.f31), (22, Go.Proofs.Tryd.f22), (15, Go.Proofs.Tryd.f15), (11, Go.Proofs.Tryd.f11), (4, Go.Proofs.Tryd.f4)]
def tmL : List (Nat × (List Sh × List (TypeId × List Sh))) := [(5, ([aL.sh], [])),
 (46, ([.bool], [])),
 (48, ([aA.sh], [])),
 (62, ([bV.sh], [])),
 (63, ([.bool], [])),
 (64, ([.bool], [])),
 (65, ([.bool], [])),
 (66, ([.bool], [])),
 (47, ([.bool], [])),
 (67, ([.bool], [])),
 (81, ([.bool], [])),
 (74, ([.bool], [])),
 (75, ([.bool], [])),
 (82, ([.bool], [])),
 (76, ([.int .i64], [])),
 (68, ([.int .i64], [])),
 (49, ([.int .i64], [])),
 (50, ([.bool], [])),
 (52, ([.int .i64], [])),
 (51, ([.int .i64], [])),
 (69, ([.int .i64], [])),
 (86, ([.bool], [])),
 (87, ([.str, .bool], [])),
 (83, ([.str, .bool], [])),
 (92, ([.int .i64], [])),
 (90, ([.int .i64], [])),
 (88, ([.str, .str, .bool], [])),
 (84, ([.str, .str, .bool], [])),
 (98, ([.int .i64], [])),
 (97, ([.int .i64], [])),
 (91, ([.sl [.str]], [])),
 (89, ([.sl [.str]], [])),
 (85, ([.sl [.str]], [])),
 (78, ([.bool], [])),
 (79, ([.bool], [])),
 (77, ([.str, .str, .bool], [])),
 (70, ([.bool, .bool], [])),
 (53, ([.int .i64], [])),
 (54, ([.int .i64], [])),
 (55, ([.int .i64], [])),
 (33, ([.int .i64], [])),
 (26, ([.row 0 [.int .u8] 5 1], [])),
 (39, ([.int .u64], [])),
 (25, ([.row 0 [.int .u8] 5 1], [])),
 (17, ([.row 0 [.int .u8] 5 1], [])),
 (56, ([.row 0 [.int .u8] 5 1], [])),
 (35, ([.int .i64], [])),
 (36, ([.row 0 [.int .u8] 5 1], [])),
 (34, ([.row 0 [.int .u8] 5 1], [])),
 (37, ([.row 0 [.int .u8] 5 1], [])),
 (38, ([.row 0 [.int .u8] 5 1], [])),
 (24, ([.row 0 [.int .u8] 5 1, .int .i64], [])),
 (16, ([.row 0 [.int .u8] 5 1, .int .i64], [])),
 (27, ([.int .i64], [])),
 (18, ([.row 0 [.int .u8] 5 1], [])),
 (12, ([.row 0 [.int .u8] 5 1, aL.sh, .int .i64], [])),
 (29, ([.int .i64], [])),
 (21, ([.int .i64, .int .i64, .int .i64], [])),
 (20, ([.row 0 [.int .u8] 5 1, .int .i64, .int .i64], [])),
 (14, ([.int .i64, .int .i64, .sl [.int .u8], .int .i64], [])),
 (10, ([.int .i64, .int .i64, .int .i64], [])),
 (42, ([], [])),
 (41, ([.int .i64], [(80, aC.shs)])),
 (80, ([.str, .int .i64, .int .i64], [])),
 (71, ([.str], [(80, aC.shs)])),
 (58, ([.int .i64], [(80, aC.shs)])),
 (72, ([.bool], [])),
 (73, ([.int .i64], [(80, aC.shs)])),
 (59, ([.agg [.str, .str, .int .i64, .bool, .int .i64, .int .i64, .str, .int .i64, .row 0 aB.ks 91 32]], [(80, aC.shs)])),
 (57, ([.agg [.int .i64, .int .i64, .bool, .str, .str, .int .i64, .bool, .int .i64, .int .i64, .str, .int .i64, .row 0 aB.ks 91 32, .str, .str, .bool, .int .i64, .int .i64, .int .i64, .bool, .int .i64, .str, .str, .int .i64, .bool, .int .i64, .int .i64, .str, .int .i64, .row 1 aB.ks 91 32, .bool, .int .i64, .row 2 aG.ks 93 32, .row 3 [.str] 9 16, .row 4 [.int .i64] 3 8]], [(80, aC.shs)])),
 (60, ([.agg [.int .i64, .int .i64, .bool, .str, .str, .int .i64, .bool, .int .i64, .int .i64, .str, .int .i64, .sl aB.ks, .str, .str, .bool, .int .i64, .int .i64, .int .i64, .bool, .int .i64, .str, .str, .int .i64, .bool, .int .i64, .int .i64, .str, .int .i64, .sl aB.ks, .bool, .int .i64, .row 0 aG.ks 93 32, .row 1 [.str] 9 16, .row 2 [.int .i64] 3 8]], [(80, aC.shs)])),
 (43, ([.agg [.int .i64, .int .i64, .bool, .str, .str, .int .i64, .bool, .int .i64, .int .i64, .str, .int .i64, .sl aB.ks, .str, .str, .bool, .int .i64, .int .i64, .int .i64, .bool, .int .i64, .str, .str, .int .i64, .bool, .int .i64, .int .i64, .str, .int .i64, .sl aB.ks, .bool, .int .i64, .row 0 aG.ks 93 32, .row 1 [.str] 9 16, .row 2 [.int .i64] 3 8]], [(80, aC.shs)])),
 (28, ([.agg [.int .i64, .int .i64, .bool, .str, .str, .int .i64, .bool, .int .i64, .int .i64, .str, .int .i64, .sl aB.ks, .str, .str, .bool, .int .i64, .int .i64, .int .i64, .bool, .int .i64, .str, .str, .int .i64, .bool, .int .i64, .int .i64, .str, .int .i64, .sl aB.ks, .bool, .int .i64, .row 0 aG.ks 93 32, .row 1 [.str] 9 16, .row 2 [.int .i64] 3 8], .int .i64], [])),
 (19, ([.row 0 aA.ks 58 416, .int .i64], [])),
 (7, ([aL.sh], [])),
 (13, ([.row 0 aA.ks 58 416, aL.sh, .int .i64], [])),
 (9, ([.bool], [])),
 (32, ([.int .i64], [])),
 (23, ([.int .i64, .int .i64, .int .i64], [])),
 (30, ([.int .i64, .int .i64, .int .i64], [])),
 (44, ([.int .i64], [])),
 (61, ([.int .u64], [])),
 (45, ([.row 0 [.int .u8] 5 1], [])),
 (31, ([.row 0 [.int .u8] 5 1], [])),
 (22, ([.row 0 [.int .u8] 5 1, .int .i64, .int .i64], [])),
 (15, ([.int .i64, .int .i64, .sl [.int .u8], .int .i64], [])),
 (11, ([.int .i64, .int .i64, .int .i64], [])),
 (4, ([.bool], []))]
def mvL : List (Nat × Bool) := [(25, true), (60, true)]
def naL : List (Nat × List (List (Option (List CK × TypeId × Nat)))) := [(25, [[some ([.int .u8], 5, 1)], []]), (60, [[], [none, none, none, none, none, none, none, none, none, none, none, none, none, none, none, none, none, none, none, none, none, none, none, none, none, none, none, none, none, none, none, some (aG.ks, 93, 32), some ([.str], 9, 16), some ([.int .i64], 3, 8)]])]
def hlL : List (Nat × List (Nat × Hint)) := [(63, [(4, ⟨[(3, .ptr 1000000000 0), (71, .sl aB.ks), (72, .int .i64), (73, .int .i64)], [(51, aE.shs)], []⟩)]),
 (64, [(4, ⟨[(1, .sl aG.ks), (12, .sl aG.ks), (13, .int .i64), (14, .int .i64)], [], []⟩)]),
 (65, [(4, ⟨[(1, .sl [.str]), (12, .sl [.str]), (13, .int .i64), (14, .int .i64)], [], []⟩)]),
 (66, [(4, ⟨[(1, .sl [.int .i64]), (12, .sl [.int .i64]), (13, .int .i64), (14, .int .i64)], [], []⟩)]),
 (67, [(4, ⟨[(15, .it 4000)], [], []⟩)]),
 (81, [(5, ⟨[(3, .int .i64), (15, .it 4000)], [], []⟩)]),
 (74, [(4, ⟨[(9, .it 4000)], [], []⟩)]),
 (82, [(4, ⟨[(0, .str), (3, .int .i64)], [], []⟩)]),
 (76, [(4, ⟨[(0, .sl aB.ks), (8, .sl aB.ks), (9, .int .i64), (10, .int .i64)], [], []⟩)]),
 (97, [(6, ⟨[(0, .str), (1, .str), (5, .int .i64)], [], []⟩)]),
 (91, [(11, ⟨[(0, .str), (1, .str), (2, .int .i64), (3, .int .i64), (9, .row 3009 [.str] 9 16), (10, .int .i64)], [], []⟩)]),
 (78, [(6, ⟨[(3, .sl [.str]), (4, .bool), (15, .sl [.str]), (16, .int .i64), (17, .int .i64)], [], []⟩), (9, ⟨[(3, .sl [.str]), (4, .bool), (5, .int .i64), (6, .str), (15, .sl [.str]), (16, .int .i64), (17, .int .i64), (23, .it 4000)], [], []⟩)]),
 (53, [(5, ⟨[(18, .sl aG.ks), (19, .int .i64), (20, .int .i64)], [], []⟩)]),
 (54, [(5, ⟨[(16, .sl [.int .i64]), (17, .int .i64), (18, .int .i64)], [], []⟩)]),
 (55, [(5, ⟨[(18, .sl [.str]), (19, .int .i64), (20, .int .i64)], [], []⟩)]),
 (25, [(2, ⟨[(0, .row 3000 [.int .u8] 5 1), (5, .int .u64)], [], []⟩)]),
 (35, [(3, ⟨[(0, .sl [.bool]), (3, .int .i64), (4, .int .i64)], [], []⟩)]),
 (36, [(8, ⟨[(5, .row 3005 [.int .u8] 5 1), (45, .sl aB.ks), (46, .int .i64), (47, .int .i64)], [], []⟩)]),
 (34, [(4, ⟨[(3, .ptr 1000000000 0), (5, .row 3005 [.int .u8] 5 1), (30, .row 3030 [.int .i64] 3 8), (31, .int .i64), (32, .int .i64)], [(58, aA.shs)], []⟩)]),
 (37, [(3, ⟨[(5, .row 3005 [.int .u8] 5 1), (12, .sl aG.ks), (13, .int .i64), (14, .int .i64)], [], []⟩)]),
 (38, [(3, ⟨[(5, .row 3005 [.int .u8] 5 1), (13, .sl [.str]), (14, .int .i64), (15, .int .i64)], [], []⟩)]),
 (24, [(24, ⟨[(5, .row 3005 [.int .u8] 5 1), (79, .sl [.int .i64]), (80, .int .i64), (81, .int .i64)], [], []⟩)]),
 (16, [(3, ⟨[(4, .row 3004 [.int .u8] 5 1), (9, .sl aA.ks), (10, .int .i64), (11, .int .i64)], [], []⟩)]),
 (27, [(3, ⟨[(3, .int .u32), (6, .sl [.int .u8]), (7, .int .i64), (8, .int .i64)], [], []⟩)]),
 (21, [(6, ⟨[(0, .sl [.int .u8]), (1, .int .i64), (7, .int .u64), (8, .int .i64)], [], []⟩)]),
 (59, [(11, ⟨[(0, .ptr 2000000000 0), (2, .ptr 1000000000 0), (3, .ptr 1000000001 0), (32, .int .i64), (33, .int .i64)], [(51, aE.shs), (51, [.str, .str, .int .i64, .bool, .int .i64, .int .i64, .str, .int .i64, .row 50108 aB.ks 91 32])], [(80, aC.shs)]⟩)]),
 (60, [(3, ⟨[(0, .ptr 2000000000 0), (4, .ptr 1000000000 0), (5, .ptr 1000000001 0), (9, .int .i64), (10, .int .i64)], [(58, aA.shs), (58, [.int .i64, .int .i64, .bool, .str, .str, .int .i64, .bool, .int .i64, .int .i64, .str, .int .i64, .sl aB.ks, .str, .str, .bool, .int .i64, .int .i64, .int .i64, .bool, .int .i64, .str, .str, .int .i64, .bool, .int .i64, .int .i64, .str, .int .i64, .sl aB.ks, .bool, .int .i64, .row 50131 aG.ks 93 32, .row 50132 [.str] 9 16, .row 50133 [.int .i64] 3 8])], [(80, aC.shs)]⟩)]),
 (19, [(3, ⟨[(0, .sl [.int .u8]), (4, .row 3004 aA.ks 58 416), (5, .int .i64)], [], []⟩)]),
 (23, [(6, ⟨[(0, .sl [.int .u8]), (1, .int .i64), (7, .int .u64), (8, .int .u64), (9, .int .i64)], [], []⟩)]),
 (44, [(3, ⟨[(0, .sl [.int .u8]), (3, .int .u64), (4, .int .i64)], [], []⟩)]),
 (45, [(3, ⟨[(5, .row 3005 [.int .u8] 5 1), (6, .int .u64)], [], []⟩)])]
def hrL : List (Nat × List (Nat × Hint)) := [(63, [(3, ⟨[(2, .ptr 1000000000 0), (3, .ptr 1000000001 0)], [(51, aE.shs), (51, aE.shs)], []⟩)]),
 (67, [(3, ⟨[(0, .str)], [], []⟩), (7, ⟨[(3, .int .i64), (4, .int .i32), (5, .bool), (15, .it 4000)], [], []⟩)]),
 (81, [(3, ⟨[(0, .str)], [], []⟩)]),
 (82, [(3, ⟨[(0, .str)], [], []⟩)]),
 (91, [(7, ⟨[(0, .str), (1, .str), (2, .int .i64), (3, .int .i64)], [], []⟩), (17, ⟨[(0, .str), (9, .row 3009 [.str] 9 16), (10, .int .i64)], [], []⟩)]),
 (35, [(5, ⟨[(0, .sl [.bool]), (3, .int .i64), (4, .int .i64), (10, .int .i64), (11, .bool)], [], []⟩)]),
 (12, [(5, ⟨[(1, .sl aA.ks), (2, .ptr 1000000000 0), (5, .ptr 1000000001 0)], [(23, aL.shs), (23, aL.shs)], []⟩)]),
 (21, [(3, ⟨[(0, .sl [.int .u8]), (1, .int .i64)], [], []⟩), (11, ⟨[(0, .sl [.int .u8]), (1, .int .i64), (7, .int .u64), (8, .int .i64), (9, .int .u8), (39, .int .i64), (40, .bool), (41, .bool), (44, .bool)], [], []⟩)]),
 (23, [(3, ⟨[(0, .sl [.int .u8]), (1, .int .i64)], [], []⟩), (13, ⟨[(0, .sl [.int .u8]), (1, .int .i64), (7, .int .u64), (8, .int .u64), (9, .int .i64), (10, .int .u8), (42, .int .i64), (43, .bool), (44, .bool), (47, .bool)], [], []⟩)])]
def eqL : List (Nat × List CK) := [(23, [.int .i64, .int .i64, .int .i64, .bool]), (91, [.str, .str]), (93, [.str, .int .i64, .bool]), (98, [.int .i64, .int .i64, .int .i64, .int .i64, .int .i64, .int .i64, .int .i64, .bool, .bool, .bool, .bool, .str, .str])]
def prL : List (Nat × Prim) := [(99, .indexByte), (103, .countByte)]
def ajU : GuardI := guardOf Go.Proofs.Tryd.f28 Go.Proofs.Tryd.f40 77
def lbL : List (Nat × LibK) := [(28, .guard ajU)]
def pvL : List (Nat × Sh) := [(42, .ifc 77 aH.sh), (41, .ifc 77 aH.sh), (71, .ifc 77 aH.sh), (58, .ifc 77 aH.sh), (73, .ifc 77 aH.sh), (59, .ifc 77 aH.sh), (57, .ifc 77 aH.sh), (60, .ifc 77 aH.sh), (43, .ifc 77 aH.sh)]
def SE : Env := { fn := assoc fnL, ty := assoc tyL, tm := assoc tmL, mv := fun f => match assoc mvL f with | some b => b | none => false, eqt := assoc eqL, pv := assoc pvL, hl := fun f r => match assoc hlL f with | some l => assoc l r | none => none, hr := fun f r => match assoc hrL f with | some l => assoc l r | none => none, prim := assoc prL, lib := assoc lbL, na := fun f => match assoc naL f with | some l => l | none => [] }
def cF : (aL) → Out := fun r => .ret [aL.av r] [] []
theorem hZ : ∀ y z, cF y = cF z → y = z := fun y z h => aL.inj (congrArg (fun o => List.map avD (cellsOf (aO 0 (Out.res o)))) h)
def aK : (Bool) → Out := fun r => .ret [.d (.bool r)] [] []
theorem bC : ∀ y z, aK y = aK z → y = z := fun y z h => congrArg (fun o => cG (avD (aO 0 (Out.res o)))) h
def kL : (aA) → Out := fun r => .ret [aA.av r] [] []
theorem afV : ∀ y z, kL y = kL z → y = z := fun y z h => aA.inj (congrArg (fun o => List.map avD (cellsOf (aO 0 (Out.res o)))) h)
def iE : (bV) → Out := fun r => .ret [bV.av r] [] []
theorem wG : ∀ y z, iE y = iE z → y = z := fun y z h => bV.inj (congrArg (fun o => List.map avD (cellsOf (aO 0 (Out.res o)))) h)
def aI : (Int) → Out := fun r => .ret [.d (.int .i64 r)] [] []
theorem aZ : ∀ y z, aI y = aI z → y = z := fun y z h => congrArg (fun o => aX (avD (aO 0 (Out.res o)))) h
def cR : (Str × Bool) → Out := fun r => .ret [.d (.str r.1), .d (.bool r.2)] [] []
theorem pQ : ∀ y z, cR y = cR z → y = z := fun y z h => Prod.ext (congrArg (fun o => bZ (avD (aO 0 (Out.res o)))) h) (congrArg (fun o => cG (avD (aO 1 (Out.res o)))) h)
def cO : (Str × Str × Bool) → Out := fun r => .ret [.d (.str r.1), .d (.str r.2.1), .d (.bool r.2.2)] [] []
theorem pK : ∀ y z, cO y = cO z → y = z := fun y z h => Prod.ext (congrArg (fun o => bZ (avD (aO 0 (Out.res o)))) h) (Prod.ext (congrArg (fun o => bZ (avD (aO 1 (Out.res o)))) h) (congrArg (fun o => cG (avD (aO 2 (Out.res o)))) h))
def cB : ((List Str)) → Out := fun r => .ret [.d (.sl [.str] (List.map bA r))] [] []
theorem oF : ∀ y z, cB y = cB z → y = z := fun y z h => map_inj ajf (congrArg (fun o => dSl (avD (aO 0 (Out.res o)))) h)
def fT : (Bool × Bool) → Out := fun r => .ret [.d (.bool r.1), .d (.bool r.2)] [] []
theorem wV : ∀ y z, fT y = fT z → y = z := fun y z h => Prod.ext (congrArg (fun o => cG (avD (aO 0 (Out.res o)))) h) (congrArg (fun o => cG (avD (aO 1 (Out.res o)))) h)
def aP : ((List Int)) → Out := fun r => .ret [.row 0] [] [⟨[.int .u8], 5, 1, (List.map (aJ .u8) r)⟩]
theorem aU : ∀ y z, aP y = aP z → y = z := fun y z h => map_inj (sO _) (congrArg (fun o => mJ 0 (Out.rws o)) h)
def gM : (Int) → Out := fun r => .ret [.d (.int .u64 r)] [] []
theorem acu : ∀ y z, gM y = gM z → y = z := fun y z h => congrArg (fun o => aX (avD (aO 0 (Out.res o)))) h
def eD : ((List Int) × Int) → Out := fun r => .ret [.row 0, .d (.int .i64 r.2)] [] [⟨[.int .u8], 5, 1, (List.map (aJ .u8) r.1)⟩]
theorem zW : ∀ y z, eD y = eD z → y = z := fun y z h => Prod.ext (map_inj (sO _) (congrArg (fun o => mJ 0 (Out.rws o)) h)) (congrArg (fun o => aX (avD (aO 1 (Out.res o)))) h)
def iQ : ((List Int) × aL × Int) → Out := fun r => .ret [.row 0, aL.av r.2.1, .d (.int .i64 r.2.2)] [] [⟨[.int .u8], 5, 1, (List.map (aJ .u8) r.1)⟩]
theorem agL : ∀ y z, iQ y = iQ z → y = z := fun y z h => Prod.ext (map_inj (sO _) (congrArg (fun o => mJ 0 (Out.rws o)) h)) (Prod.ext (aL.inj (congrArg (fun o => List.map avD (cellsOf (aO 1 (Out.res o)))) h)) (congrArg (fun o => aX (avD (aO 2 (Out.res o)))) h))
def bN : (Int × Int × Int) → Out := fun r => .ret [.d (.int .i64 r.1), .d (.int .i64 r.2.1), .d (.int .i64 r.2.2)] [] []
theorem fG : ∀ y z, bN y = bN z → y = z := fun y z h => Prod.ext (congrArg (fun o => aX (avD (aO 0 (Out.res o)))) h) (Prod.ext (congrArg (fun o => aX (avD (aO 1 (Out.res o)))) h) (congrArg (fun o => aX (avD (aO 2 (Out.res o)))) h))
def eU : ((List Int) × Int × Int) → Out := fun r => .ret [.row 0, .d (.int .i64 r.2.1), .d (.int .i64 r.2.2)] [] [⟨[.int .u8], 5, 1, (List.map (aJ .u8) r.1)⟩]
theorem aa9 : ∀ y z, eU y = eU z → y = z := fun y z h => Prod.ext (map_inj (sO _) (congrArg (fun o => mJ 0 (Out.rws o)) h)) (Prod.ext (congrArg (fun o => aX (avD (aO 1 (Out.res o)))) h) (congrArg (fun o => aX (avD (aO 2 (Out.res o)))) h))
def dL : (Int × Int × (List Int) × Int) → Out := fun r => .ret [.d (.int .i64 r.1), .d (.int .i64 r.2.1), .d (.sl [.int .u8] (List.map (aJ .u8) r.2.2.1)), .d (.int .i64 r.2.2.2)] [] []
theorem tL : ∀ y z, dL y = dL z → y = z := fun y z h => Prod.ext (congrArg (fun o => aX (avD (aO 0 (Out.res o)))) h) (Prod.ext (congrArg (fun o => aX (avD (aO 1 (Out.res o)))) h) (Prod.ext (map_inj (sO _) (congrArg (fun o => dSl (avD (aO 2 (Out.res o)))) h)) (congrArg (fun o => aX (avD (aO 3 (Out.res o)))) h)))
def uN : (Unit) → Out := fun r => .ret [] [] []
def eE : (aH ⊕ (Unit)) → Out := fun s => match s with | .inl q => .pan (.ifc 77 (aH.av q)) | .inr r => uN r
theorem ag2 : ∀ y z, uN y = uN z → y = z := fun y z h => rfl
theorem fD : ∀ y z, eE y = eE z → y = z := fun y z h => match y, z, h with
 | .inl a, .inl b, h => congrArg Sum.inl (aH.inj (congrArg (fun o => List.map avD (cellsOf (ab6 (Out.yR o)))) h))
 | .inr a, .inr b, h => congrArg Sum.inr (ag2 a b h)
 | .inl _, .inr _, h => Bool.noConfusion (congrArg Out.j7 h : true = false)
 | .inr _, .inl _, h => Bool.noConfusion (congrArg Out.j7 h : false = true)
def mB : (Int × aC) → Out := fun r => .ret [.d (.int .i64 r.1)] [⟨80, (aC.avs r.2)⟩] []
def bW : (aH ⊕ (Int × aC)) → Out := fun s => match s with | .inl q => .pan (.ifc 77 (aH.av q)) | .inr r => mB r
theorem yW : ∀ y z, mB y = mB z → y = z := fun y z h => Prod.ext (congrArg (fun o => aX (avD (aO 0 (Out.res o)))) h) (aC.inj (congrArg (fun o => List.map avD (abI 0 (Out.bxs o))) h))
theorem bE : ∀ y z, bW y = bW z → y = z := fun y z h => match y, z, h with
 | .inl a, .inl b, h => congrArg Sum.inl (aH.inj (congrArg (fun o => List.map avD (cellsOf (ab6 (Out.yR o)))) h))
 | .inr a, .inr b, h => congrArg Sum.inr (yW a b h)
 | .inl _, .inr _, h => Bool.noConfusion (congrArg Out.j7 h : true = false)
 | .inr _, .inl _, h => Bool.noConfusion (congrArg Out.j7 h : false = true)
def kV : (Str × Int × Int) → Out := fun r => .ret [.d (.str r.1), .d (.int .i64 r.2.1), .d (.int .i64 r.2.2)] [] []
theorem aif : ∀ y z, kV y = kV z → y = z := fun y z h => Prod.ext (congrArg (fun o => bZ (avD (aO 0 (Out.res o)))) h) (Prod.ext (congrArg (fun o => aX (avD (aO 1 (Out.res o)))) h) (congrArg (fun o => aX (avD (aO 2 (Out.res o)))) h))
def lL : (Str × aC) → Out := fun r => .ret [.d (.str r.1)] [⟨80, (aC.avs r.2)⟩] []
def cY : (aH ⊕ (Str × aC)) → Out := fun s => match s with | .inl q => .pan (.ifc 77 (aH.av q)) | .inr r => lL r
theorem xH : ∀ y z, lL y = lL z → y = z := fun y z h => Prod.ext (congrArg (fun o => bZ (avD (aO 0 (Out.res o)))) h) (aC.inj (congrArg (fun o => List.map avD (abI 0 (Out.bxs o))) h))
theorem dI : ∀ y z, cY y = cY z → y = z := fun y z h => match y, z, h with
 | .inl a, .inl b, h => congrArg Sum.inl (aH.inj (congrArg (fun o => List.map avD (cellsOf (ab6 (Out.yR o)))) h))
 | .inr a, .inr b, h => congrArg Sum.inr (xH a b h)
 | .inl _, .inr _, h => Bool.noConfusion (congrArg Out.j7 h : true = false)
 | .inr _, .inl _, h => Bool.noConfusion (congrArg Out.j7 h : false = true)
def kY : (Int × aC) → Out := fun r => .ret [.d (.int .i64 r.1)] [⟨80, (aC.avs r.2)⟩] []
def cJ : (aH ⊕ (Int × aC)) → Out := fun s => match s with | .inl q => .pan (.ifc 77 (aH.av q)) | .inr r => kY r
theorem wO : ∀ y z, kY y = kY z → y = z := fun y z h => Prod.ext (congrArg (fun o => aX (avD (aO 0 (Out.res o)))) h) (aC.inj (congrArg (fun o => List.map avD (abI 0 (Out.bxs o))) h))
theorem fZ : ∀ y z, cJ y = cJ z → y = z := fun y z h => match y, z, h with
 | .inl a, .inl b, h => congrArg Sum.inl (aH.inj (congrArg (fun o => List.map avD (cellsOf (ab6 (Out.yR o)))) h))
 | .inr a, .inr b, h => congrArg Sum.inr (wO a b h)
 | .inl _, .inr _, h => Bool.noConfusion (congrArg Out.j7 h : true = false)
 | .inr _, .inl _, h => Bool.noConfusion (congrArg Out.j7 h : false = true)
def kW : (Int × aC) → Out := fun r => .ret [.d (.int .i64 r.1)] [⟨80, (aC.avs r.2)⟩] []
def dK : (aH ⊕ (Int × aC)) → Out := fun s => match s with | .inl q => .pan (.ifc 77 (aH.av q)) | .inr r => kW r
theorem wN : ∀ y z, kW y = kW z → y = z := fun y z h => Prod.ext (congrArg (fun o => aX (avD (aO 0 (Out.res o)))) h) (aC.inj (congrArg (fun o => List.map avD (abI 0 (Out.bxs o))) h))
theorem pL : ∀ y z, dK y = dK z → y = z := fun y z h => match y, z, h with
 | .inl a, .inl b, h => congrArg Sum.inl (aH.inj (congrArg (fun o => List.map avD (cellsOf (ab6 (Out.yR o)))) h))
 | .inr a, .inr b, h => congrArg Sum.inr (wN a b h)
 | .inl _, .inr _, h => Bool.noConfusion (congrArg Out.j7 h : true = false)
 | .inr _, .inl _, h => Bool.noConfusion (congrArg Out.j7 h : false = true)
def jR : (aE × aC) → Out := fun r => .ret [.agg [.d (.str r.1.Topic), .d (.str r.1.Payload), .d (.int .i64 r.1.Level), .d (.bool r.1.Retain), .d (.int .i64 r.1.Priority), .d (.int .i64 r.1.Expires), .d (.str r.1.From), .d (.int .i64 r.1.Seq), .row 0]] [⟨80, (aC.avs r.2)⟩] [⟨aB.ks, 91, 32, (List.map aB.enc r.1.Props)⟩]
def cV : (aH ⊕ (aE × aC)) → Out := fun s => match s with | .inl q => .pan (.ifc 77 (aH.av q)) | .inr r => jR r
theorem uW : ∀ y z, jR y = jR z → y = z := fun y z h => Prod.ext (aE.inj (congrArg (fun o => [avD (aO 0 (cellsOf (aO 0 (Out.res o)))), avD (aO 1 (cellsOf (aO 0 (Out.res o)))), avD (aO 2 (cellsOf (aO 0 (Out.res o)))), avD (aO 3 (cellsOf (aO 0 (Out.res o)))), avD (aO 4 (cellsOf (aO 0 (Out.res o)))), avD (aO 5 (cellsOf (aO 0 (Out.res o)))), avD (aO 6 (cellsOf (aO 0 (Out.res o)))), avD (aO 7 (cellsOf (aO 0 (Out.res o)))), D.sl aB.ks (mJ 0 (Out.rws o))]) h)) (aC.inj (congrArg (fun o => List.map avD (abI 0 (Out.bxs o))) h))
theorem nY : ∀ y z, cV y = cV z → y = z := fun y z h => match y, z, h with
 | .inl a, .inl b, h => congrArg Sum.inl (aH.inj (congrArg (fun o => List.map avD (cellsOf (ab6 (Out.yR o)))) h))
 | .inr a, .inr b, h => congrArg Sum.inr (uW a b h)
 | .inl _, .inr _, h => Bool.noConfusion (congrArg Out.j7 h : true = false)
 | .inr _, .inl _, h => Bool.noConfusion (congrArg Out.j7 h : false = true)
def jP : (aA × aC) → Out := fun r => .ret [.agg [.d (.int .i64 r.1.Kind), .d (.int .i64 r.1.ID), .d (.bool r.1.Dup), .d (.str r.1.Message.Topic), .d (.str r.1.Message.Payload), .d (.int .i64 r.1.Message.Level), .d (.bool r.1.Message.Retain), .d (.int .i64 r.1.Message.Priority), .d (.int .i64 r.1.Message.Expires), .d (.str r.1.Message.From), .d (.int .i64 r.1.Message.Seq), .row 0, .d (.str r.1.Client), .d (.str r.1.User), .d (.bool r.1.Clean), .d (.int .i64 r.1.Keep), .d (.int .i64 r.1.Expiry), .d (.int .i64 r.1.Window), .d (.bool r.1.Will.Set), .d (.int .i64 r.1.Will.Delay), .d (.str r.1.Will.Message.Topic), .d (.str r.1.Will.Message.Payload), .d (.int .i64 r.1.Will.Message.Level), .d (.bool r.1.Will.Message.Retain), .d (.int .i64 r.1.Will.Message.Priority), .d (.int .i64 r.1.Will.Message.Expires), .d (.str r.1.Will.Message.From), .d (.int .i64 r.1.Will.Message.Seq), .row 1, .d (.bool r.1.Present), .d (.int .i64 r.1.Code), .row 2, .row 3, .row 4]] [⟨80, (aC.avs r.2)⟩] [⟨aB.ks, 91, 32, (List.map aB.enc r.1.Message.Props)⟩, ⟨aB.ks, 91, 32, (List.map aB.enc r.1.Will.Message.Props)⟩, ⟨aG.ks, 93, 32, (List.map aG.enc r.1.Subs)⟩, ⟨[.str], 9, 16, (List.map bA r.1.Filters)⟩, ⟨[.int .i64], 3, 8, (List.map (aJ .i64) r.1.Codes)⟩]
def eQ : (aH ⊕ (aA × aC)) → Out := fun s => match s with | .inl q => .pan (.ifc 77 (aH.av q)) | .inr r => jP r
theorem vC : ∀ y z, jP y = jP z → y = z := fun y z h => Prod.ext (aA.inj (congrArg (fun o => [avD (aO 0 (cellsOf (aO 0 (Out.res o)))), avD (aO 1 (cellsOf (aO 0 (Out.res o)))), avD (aO 2 (cellsOf (aO 0 (Out.res o)))), avD (aO 3 (cellsOf (aO 0 (Out.res o)))), avD (aO 4 (cellsOf (aO 0 (Out.res o)))), avD (aO 5 (cellsOf (aO 0 (Out.res o)))), avD (aO 6 (cellsOf (aO 0 (Out.res o)))), avD (aO 7 (cellsOf (aO 0 (Out.res o)))), avD (aO 8 (cellsOf (aO 0 (Out.res o)))), avD (aO 9 (cellsOf (aO 0 (Out.res o)))), avD (aO 10 (cellsOf (aO 0 (Out.res o)))), D.sl aB.ks (mJ 0 (Out.rws o)), avD (aO 12 (cellsOf (aO 0 (Out.res o)))), avD (aO 13 (cellsOf (aO 0 (Out.res o)))), avD (aO 14 (cellsOf (aO 0 (Out.res o)))), avD (aO 15 (cellsOf (aO 0 (Out.res o)))), avD (aO 16 (cellsOf (aO 0 (Out.res o)))), avD (aO 17 (cellsOf (aO 0 (Out.res o)))), avD (aO 18 (cellsOf (aO 0 (Out.res o)))), avD (aO 19 (cellsOf (aO 0 (Out.res o)))), avD (aO 20 (cellsOf (aO 0 (Out.res o)))), avD (aO 21 (cellsOf (aO 0 (Out.res o)))), avD (aO 22 (cellsOf (aO 0 (Out.res o)))), avD (aO 23 (cellsOf (aO 0 (Out.res o)))), avD (aO 24 (cellsOf (aO 0 (Out.res o)))), avD (aO 25 (cellsOf (aO 0 (Out.res o)))), avD (aO 26 (cellsOf (aO 0 (Out.res o)))), avD (aO 27 (cellsOf (aO 0 (Out.res o)))), D.sl aB.ks (mJ 1 (Out.rws o)), avD (aO 29 (cellsOf (aO 0 (Out.res o)))), avD (aO 30 (cellsOf (aO 0 (Out.res o)))), D.sl aG.ks (mJ 2 (Out.rws o)), D.sl [.str] (mJ 3 (Out.rws o)), D.sl [.int .i64] (mJ 4 (Out.rws o))]) h)) (aC.inj (congrArg (fun o => List.map avD (abI 0 (Out.bxs o))) h))
theorem wD : ∀ y z, eQ y = eQ z → y = z := fun y z h => match y, z, h with
 | .inl a, .inl b, h => congrArg Sum.inl (aH.inj (congrArg (fun o => List.map avD (cellsOf (ab6 (Out.yR o)))) h))
 | .inr a, .inr b, h => congrArg Sum.inr (vC a b h)
 | .inl _, .inr _, h => Bool.noConfusion (congrArg Out.j7 h : true = false)
 | .inr _, .inl _, h => Bool.noConfusion (congrArg Out.j7 h : false = true)
def k9 : (aA × aC) → Out := fun r => .ret [.agg [.d (.int .i64 r.1.Kind), .d (.int .i64 r.1.ID), .d (.bool r.1.Dup), .d (.str r.1.Message.Topic), .d (.str r.1.Message.Payload), .d (.int .i64 r.1.Message.Level), .d (.bool r.1.Message.Retain), .d (.int .i64 r.1.Message.Priority), .d (.int .i64 r.1.Message.Expires), .d (.str r.1.Message.From), .d (.int .i64 r.1.Message.Seq), .d (.sl aB.ks (List.map aB.enc r.1.Message.Props)), .d (.str r.1.Client), .d (.str r.1.User), .d (.bool r.1.Clean), .d (.int .i64 r.1.Keep), .d (.int .i64 r.1.Expiry), .d (.int .i64 r.1.Window), .d (.bool r.1.Will.Set), .d (.int .i64 r.1.Will.Delay), .d (.str r.1.Will.Message.Topic), .d (.str r.1.Will.Message.Payload), .d (.int .i64 r.1.Will.Message.Level), .d (.bool r.1.Will.Message.Retain), .d (.int .i64 r.1.Will.Message.Priority), .d (.int .i64 r.1.Will.Message.Expires), .d (.str r.1.Will.Message.From), .d (.int .i64 r.1.Will.Message.Seq), .d (.sl aB.ks (List.map aB.enc r.1.Will.Message.Props)), .d (.bool r.1.Present), .d (.int .i64 r.1.Code), .row 0, .row 1, .row 2]] [⟨80, (aC.avs r.2)⟩] [⟨aG.ks, 93, 32, (List.map aG.enc r.1.Subs)⟩, ⟨[.str], 9, 16, (List.map bA r.1.Filters)⟩, ⟨[.int .i64], 3, 8, (List.map (aJ .i64) r.1.Codes)⟩]
def dW : (aH ⊕ (aA × aC)) → Out := fun s => match s with | .inl q => .pan (.ifc 77 (aH.av q)) | .inr r => k9 r
theorem wQ : ∀ y z, k9 y = k9 z → y = z := fun y z h => Prod.ext (aA.inj (congrArg (fun o => [avD (aO 0 (cellsOf (aO 0 (Out.res o)))), avD (aO 1 (cellsOf (aO 0 (Out.res o)))), avD (aO 2 (cellsOf (aO 0 (Out.res o)))), avD (aO 3 (cellsOf (aO 0 (Out.res o)))), avD (aO 4 (cellsOf (aO 0 (Out.res o)))), avD (aO 5 (cellsOf (aO 0 (Out.res o)))), avD (aO 6 (cellsOf (aO 0 (Out.res o)))), avD (aO 7 (cellsOf (aO 0 (Out.res o)))), avD (aO 8 (cellsOf (aO 0 (Out.res o)))), avD (aO 9 (cellsOf (aO 0 (Out.res o)))), avD (aO 10 (cellsOf (aO 0 (Out.res o)))), avD (aO 11 (cellsOf (aO 0 (Out.res o)))), avD (aO 12 (cellsOf (aO 0 (Out.res o)))), avD (aO 13 (cellsOf (aO 0 (Out.res o)))), avD (aO 14 (cellsOf (aO 0 (Out.res o)))), avD (aO 15 (cellsOf (aO 0 (Out.res o)))), avD (aO 16 (cellsOf (aO 0 (Out.res o)))), avD (aO 17 (cellsOf (aO 0 (Out.res o)))), avD (aO 18 (cellsOf (aO 0 (Out.res o)))), avD (aO 19 (cellsOf (aO 0 (Out.res o)))), avD (aO 20 (cellsOf (aO 0 (Out.res o)))), avD (aO 21 (cellsOf (aO 0 (Out.res o)))), avD (aO 22 (cellsOf (aO 0 (Out.res o)))), avD (aO 23 (cellsOf (aO 0 (Out.res o)))), avD (aO 24 (cellsOf (aO 0 (Out.res o)))), avD (aO 25 (cellsOf (aO 0 (Out.res o)))), avD (aO 26 (cellsOf (aO 0 (Out.res o)))), avD (aO 27 (cellsOf (aO 0 (Out.res o)))), avD (aO 28 (cellsOf (aO 0 (Out.res o)))), avD (aO 29 (cellsOf (aO 0 (Out.res o)))), avD (aO 30 (cellsOf (aO 0 (Out.res o)))), D.sl aG.ks (mJ 0 (Out.rws o)), D.sl [.str] (mJ 1 (Out.rws o)), D.sl [.int .i64] (mJ 2 (Out.rws o))]) h)) (aC.inj (congrArg (fun o => List.map avD (abI 0 (Out.bxs o))) h))
theorem iI : ∀ y z, dW y = dW z → y = z := fun y z h => match y, z, h with
 | .inl a, .inl b, h => congrArg Sum.inl (aH.inj (congrArg (fun o => List.map avD (cellsOf (ab6 (Out.yR o)))) h))
 | .inr a, .inr b, h => congrArg Sum.inr (wQ a b h)
 | .inl _, .inr _, h => Bool.noConfusion (congrArg Out.j7 h : true = false)
 | .inr _, .inl _, h => Bool.noConfusion (congrArg Out.j7 h : false = true)
def kA : (aA × aC) → Out := fun r => .ret [.agg [.d (.int .i64 r.1.Kind), .d (.int .i64 r.1.ID), .d (.bool r.1.Dup), .d (.str r.1.Message.Topic), .d (.str r.1.Message.Payload), .d (.int .i64 r.1.Message.Level), .d (.bool r.1.Message.Retain), .d (.int .i64 r.1.Message.Priority), .d (.int .i64 r.1.Message.Expires), .d (.str r.1.Message.From), .d (.int .i64 r.1.Message.Seq), .d (.sl aB.ks (List.map aB.enc r.1.Message.Props)), .d (.str r.1.Client), .d (.str r.1.User), .d (.bool r.1.Clean), .d (.int .i64 r.1.Keep), .d (.int .i64 r.1.Expiry), .d (.int .i64 r.1.Window), .d (.bool r.1.Will.Set), .d (.int .i64 r.1.Will.Delay), .d (.str r.1.Will.Message.Topic), .d (.str r.1.Will.Message.Payload), .d (.int .i64 r.1.Will.Message.Level), .d (.bool r.1.Will.Message.Retain), .d (.int .i64 r.1.Will.Message.Priority), .d (.int .i64 r.1.Will.Message.Expires), .d (.str r.1.Will.Message.From), .d (.int .i64 r.1.Will.Message.Seq), .d (.sl aB.ks (List.map aB.enc r.1.Will.Message.Props)), .d (.bool r.1.Present), .d (.int .i64 r.1.Code), .row 0, .row 1, .row 2]] [⟨80, (aC.avs r.2)⟩] [⟨aG.ks, 93, 32, (List.map aG.enc r.1.Subs)⟩, ⟨[.str], 9, 16, (List.map bA r.1.Filters)⟩, ⟨[.int .i64], 3, 8, (List.map (aJ .i64) r.1.Codes)⟩]
def eV : (aH ⊕ (aA × aC)) → Out := fun s => match s with | .inl q => .pan (.ifc 77 (aH.av q)) | .inr r => kA r
theorem wC : ∀ y z, kA y = kA z → y = z := fun y z h => Prod.ext (aA.inj (congrArg (fun o => [avD (aO 0 (cellsOf (aO 0 (Out.res o)))), avD (aO 1 (cellsOf (aO 0 (Out.res o)))), avD (aO 2 (cellsOf (aO 0 (Out.res o)))), avD (aO 3 (cellsOf (aO 0 (Out.res o)))), avD (aO 4 (cellsOf (aO 0 (Out.res o)))), avD (aO 5 (cellsOf (aO 0 (Out.res o)))), avD (aO 6 (cellsOf (aO 0 (Out.res o)))), avD (aO 7 (cellsOf (aO 0 (Out.res o)))), avD (aO 8 (cellsOf (aO 0 (Out.res o)))), avD (aO 9 (cellsOf (aO 0 (Out.res o)))), avD (aO 10 (cellsOf (aO 0 (Out.res o)))), avD (aO 11 (cellsOf (aO 0 (Out.res o)))), avD (aO 12 (cellsOf (aO 0 (Out.res o)))), avD (aO 13 (cellsOf (aO 0 (Out.res o)))), avD (aO 14 (cellsOf (aO 0 (Out.res o)))), avD (aO 15 (cellsOf (aO 0 (Out.res o)))), avD (aO 16 (cellsOf (aO 0 (Out.res o)))), avD (aO 17 (cellsOf (aO 0 (Out.res o)))), avD (aO 18 (cellsOf (aO 0 (Out.res o)))), avD (aO 19 (cellsOf (aO 0 (Out.res o)))), avD (aO 20 (cellsOf (aO 0 (Out.res o)))), avD (aO 21 (cellsOf (aO 0 (Out.res o)))), avD (aO 22 (cellsOf (aO 0 (Out.res o)))), avD (aO 23 (cellsOf (aO 0 (Out.res o)))), avD (aO 24 (cellsOf (aO 0 (Out.res o)))), avD (aO 25 (cellsOf (aO 0 (Out.res o)))), avD (aO 26 (cellsOf (aO 0 (Out.res o)))), avD (aO 27 (cellsOf (aO 0 (Out.res o)))), avD (aO 28 (cellsOf (aO 0 (Out.res o)))), avD (aO 29 (cellsOf (aO 0 (Out.res o)))), avD (aO 30 (cellsOf (aO 0 (Out.res o)))), D.sl aG.ks (mJ 0 (Out.rws o)), D.sl [.str] (mJ 1 (Out.rws o)), D.sl [.int .i64] (mJ 2 (Out.rws o))]) h)) (aC.inj (congrArg (fun o => List.map avD (abI 0 (Out.bxs o))) h))
theorem oO : ∀ y z, eV y = eV z → y = z := fun y z h => match y, z, h with
 | .inl a, .inl b, h => congrArg Sum.inl (aH.inj (congrArg (fun o => List.map avD (cellsOf (ab6 (Out.yR o)))) h))
 | .inr a, .inr b, h => congrArg Sum.inr (wC a b h)
 | .inl _, .inr _, h => Bool.noConfusion (congrArg Out.j7 h : true = false)
 | .inr _, .inl _, h => Bool.noConfusion (congrArg Out.j7 h : false = true)
def kP : (aA × Int) → Out := fun r => .ret [.agg [.d (.int .i64 r.1.Kind), .d (.int .i64 r.1.ID), .d (.bool r.1.Dup), .d (.str r.1.Message.Topic), .d (.str r.1.Message.Payload), .d (.int .i64 r.1.Message.Level), .d (.bool r.1.Message.Retain), .d (.int .i64 r.1.Message.Priority), .d (.int .i64 r.1.Message.Expires), .d (.str r.1.Message.From), .d (.int .i64 r.1.Message.Seq), .d (.sl aB.ks (List.map aB.enc r.1.Message.Props)), .d (.str r.1.Client), .d (.str r.1.User), .d (.bool r.1.Clean), .d (.int .i64 r.1.Keep), .d (.int .i64 r.1.Expiry), .d (.int .i64 r.1.Window), .d (.bool r.1.Will.Set), .d (.int .i64 r.1.Will.Delay), .d (.str r.1.Will.Message.Topic), .d (.str r.1.Will.Message.Payload), .d (.int .i64 r.1.Will.Message.Level), .d (.bool r.1.Will.Message.Retain), .d (.int .i64 r.1.Will.Message.Priority), .d (.int .i64 r.1.Will.Message.Expires), .d (.str r.1.Will.Message.From), .d (.int .i64 r.1.Will.Message.Seq), .d (.sl aB.ks (List.map aB.enc r.1.Will.Message.Props)), .d (.bool r.1.Present), .d (.int .i64 r.1.Code), .row 0, .row 1, .row 2], .d (.int .i64 r.2)] [] [⟨aG.ks, 93, 32, (List.map aG.enc r.1.Subs)⟩, ⟨[.str], 9, 16, (List.map bA r.1.Filters)⟩, ⟨[.int .i64], 3, 8, (List.map (aJ .i64) r.1.Codes)⟩]
theorem afO : ∀ y z, kP y = kP z → y = z := fun y z h => Prod.ext (aA.inj (congrArg (fun o => [avD (aO 0 (cellsOf (aO 0 (Out.res o)))), avD (aO 1 (cellsOf (aO 0 (Out.res o)))), avD (aO 2 (cellsOf (aO 0 (Out.res o)))), avD (aO 3 (cellsOf (aO 0 (Out.res o)))), avD (aO 4 (cellsOf (aO 0 (Out.res o)))), avD (aO 5 (cellsOf (aO 0 (Out.res o)))), avD (aO 6 (cellsOf (aO 0 (Out.res o)))), avD (aO 7 (cellsOf (aO 0 (Out.res o)))), avD (aO 8 (cellsOf (aO 0 (Out.res o)))), avD (aO 9 (cellsOf (aO 0 (Out.res o)))), avD (aO 10 (cellsOf (aO 0 (Out.res o)))), avD (aO 11 (cellsOf (aO 0 (Out.res o)))), avD (aO 12 (cellsOf (aO 0 (Out.res o)))), avD (aO 13 (cellsOf (aO 0 (Out.res o)))), avD (aO 14 (cellsOf (aO 0 (Out.res o)))), avD (aO 15 (cellsOf (aO 0 (Out.res o)))), avD (aO 16 (cellsOf (aO 0 (Out.res o)))), avD (aO 17 (cellsOf (aO 0 (Out.res o)))), avD (aO 18 (cellsOf (aO 0 (Out.res o)))), avD (aO 19 (cellsOf (aO 0 (Out.res o)))), avD (aO 20 (cellsOf (aO 0 (Out.res o)))), avD (aO 21 (cellsOf (aO 0 (Out.res o)))), avD (aO 22 (cellsOf (aO 0 (Out.res o)))), avD (aO 23 (cellsOf (aO 0 (Out.res o)))), avD (aO 24 (cellsOf (aO 0 (Out.res o)))), avD (aO 25 (cellsOf (aO 0 (Out.res o)))), avD (aO 26 (cellsOf (aO 0 (Out.res o)))), avD (aO 27 (cellsOf (aO 0 (Out.res o)))), avD (aO 28 (cellsOf (aO 0 (Out.res o)))), avD (aO 29 (cellsOf (aO 0 (Out.res o)))), avD (aO 30 (cellsOf (aO 0 (Out.res o)))), D.sl aG.ks (mJ 0 (Out.rws o)), D.sl [.str] (mJ 1 (Out.rws o)), D.sl [.int .i64] (mJ 2 (Out.rws o))]) h)) (congrArg (fun o => aX (avD (aO 1 (Out.res o)))) h)
def gH : ((List aA) × Int) → Out := fun r => .ret [.row 0, .d (.int .i64 r.2)] [] [⟨aA.ks, 58, 416, (List.map aA.enc r.1)⟩]
theorem adG : ∀ y z, gH y = gH z → y = z := fun y z h => Prod.ext (map_inj aA.inj (congrArg (fun o => mJ 0 (Out.rws o)) h)) (congrArg (fun o => aX (avD (aO 1 (Out.res o)))) h)
def hY : ((List aA) × aL × Int) → Out := fun r => .ret [.row 0, aL.av r.2.1, .d (.int .i64 r.2.2)] [] [⟨aA.ks, 58, 416, (List.map aA.enc r.1)⟩]
theorem vU : ∀ y z, hY y = hY z → y = z := fun y z h => Prod.ext (map_inj aA.inj (congrArg (fun o => mJ 0 (Out.rws o)) h)) (Prod.ext (aL.inj (congrArg (fun o => List.map avD (cellsOf (aO 1 (Out.res o)))) h)) (congrArg (fun o => aX (avD (aO 2 (Out.res o)))) h))
def good : FuncId → Out → Prop := fun f o => match f with | 5 => ∃ x, cF x = o | 46 => ∃ x, aK x = o | 48 => ∃ x, kL x = o | 62 => ∃ x, iE x = o | 63 => ∃ x, aK x = o | 64 => ∃ x, aK x = o | 65 => ∃ x, aK x = o | 66 => ∃ x, aK x = o | 47 => ∃ x, aK x = o | 67 => ∃ x, aK x = o | 81 => ∃ x, aK x = o | 74 => ∃ x, aK x = o | 75 => ∃ x, aK x = o | 82 => ∃ x, aK x = o | 76 => ∃ x, aI x = o | 68 => ∃ x, aI x = o | 49 => ∃ x, aI x = o | 50 => ∃ x, aK x = o | 52 => ∃ x, aI x = o | 51 => ∃ x, aI x = o | 69 => ∃ x, aI x = o | 86 => ∃ x, aK x = o | 87 => ∃ x, cR x = o | 83 => ∃ x, cR x = o | 92 => ∃ x, aI x = o | 90 => ∃ x, aI x = o | 88 => ∃ x, cO x = o | 84 => ∃ x, cO x = o | 98 => ∃ x, aI x = o | 97 => ∃ x, aI x = o | 91 => ∃ x, cB x = o | 89 => ∃ x, cB x = o | 85 => ∃ x, cB x = o | 78 => ∃ x, aK x = o | 79 => ∃ x, aK x = o | 77 => ∃ x, cO x = o | 70 => ∃ x, fT x = o | 53 => ∃ x, aI x = o | 54 => ∃ x, aI x = o | 55 => ∃ x, aI x = o | 33 => ∃ x, aI x = o | 26 => ∃ x, aP x = o | 39 => ∃ x, gM x = o | 25 => ∃ x, aP x = o | 17 => ∃ x, aP x = o | 56 => ∃ x, aP x = o | 35 => ∃ x, aI x = o | 36 => ∃ x, aP x = o | 34 => ∃ x, aP x = o | 37 => ∃ x, aP x = o | 38 => ∃ x, aP x = o | 24 => ∃ x, eD x = o | 16 => ∃ x, eD x = o | 27 => ∃ x, aI x = o | 18 => ∃ x, aP x = o | 12 => ∃ x, iQ x = o | 29 => ∃ x, aI x = o | 21 => ∃ x, bN x = o | 20 => ∃ x, eU x = o | 14 => ∃ x, dL x = o | 10 => ∃ x, bN x = o | 42 => ∃ x, eE x = o | 41 => ∃ x, bW x = o | 80 => ∃ x, kV x = o | 71 => ∃ x, cY x = o | 58 => ∃ x, cJ x = o | 72 => ∃ x, aK x = o | 73 => ∃ x, dK x = o | 59 => ∃ x, cV x = o | 57 => ∃ x, eQ x = o | 60 => ∃ x, dW x = o | 43 => ∃ x, eV x = o | 28 => ∃ x, kP x = o | 19 => ∃ x, gH x = o | 7 => ∃ x, cF x = o | 13 => ∃ x, hY x = o | 9 => ∃ x, aK x = o | 32 => ∃ x, aI x = o | 23 => ∃ x, bN x = o | 30 => ∃ x, bN x = o | 44 => ∃ x, aI x = o | 61 => ∃ x, gM x = o | 45 => ∃ x, aP x = o | 31 => ∃ x, aP x = o | 22 => ∃ x, eU x = o | 15 => ∃ x, dL x = o | 11 => ∃ x, bN x = o | 4 => ∃ x, aK x = o | _ => False
abbrev cT {R : Type} (g : FuncId) (out : R → Out) : Gm R := ad6 SE good g out
noncomputable abbrev gG : Fun := kJ SE good
noncomputable abbrev cP {Q R : Type} (g : FuncId) (out : Q ⊕ R → Out) : Gp Q R := agn SE good g out
end Te
end PX
