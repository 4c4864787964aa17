import Derived.Test.YtcfpheihkbkloaaGreatDoorMod
import Derived.Test.YtcfpheihkbkloaaGreatDoorProg
set_option linter.unusedVariables false
set_option linter.unusedSimpArgs false
set_option linter.unusedVariables false
set_option linter.unusedSimpArgs false
noncomputable section
namespace PX
open Go
open Md
namespace Te
def tyL : List (Nat × TI) := [(3, ⟨[.int .i64], false, 8, [], 0⟩),
 (4, ⟨[.bool], false, 1, [], 0⟩),
 (5, ⟨[.int .u8], false, 1, [], 0⟩),
 (9, ⟨[.str], false, 16, [], 0⟩),
 (21, ⟨[.int .i32], false, 4, [], 0⟩),
 (22, ⟨[.sl [.int .i64]], false, 24, [], 3⟩),
 (24, ⟨[.sl [.int .i64]], true, 24, [(0, 22)], 0⟩),
 (25, ⟨[.sl [.str, .str]], false, 24, [], 100⟩),
 (27, ⟨[.str, .str, .int .i64, .bool, .int .i64, .int .i64, .str, .int .i64, .sl [.str, .str]], true, 112, [(0, 9), (1, 9), (2, 3), (3, 4), (4, 3), (5, 3), (6, 9), (7, 3), (8, 25)], 0⟩),
 (29, ⟨[.bool, .int .i64, .str, .str, .int .i64, .bool, .int .i64, .int .i64, .str, .int .i64, .sl [.str, .str]], true, 128, [(0, 4), (1, 3), (2, 27)], 0⟩),
 (30, ⟨[.sl [.str, .int .i64, .bool]], false, 24, [], 83⟩),
 (31, ⟨[.sl [.str]], false, 24, [], 9⟩),
 (33, ⟨[.int .i64, .int .i64, .bool, .str, .str, .int .i64, .bool, .int .i64, .int .i64, .str, .int .i64, .sl [.str, .str], .str, .str, .bool, .int .i64, .int .i64, .int .i64, .bool, .int .i64, .str, .str, .int .i64, .bool, .int .i64, .int .i64, .str, .int .i64, .sl [.str, .str], .bool, .int .i64, .sl [.str, .int .i64, .bool], .sl [.str], .sl [.int .i64]], true, 416, [(0, 3), (1, 3), (2, 4), (3, 27), (12, 9), (13, 9), (14, 4), (15, 3), (16, 3), (17, 3), (18, 29), (29, 4), (30, 3), (31, 30), (32, 31), (33, 22)], 0⟩),
 (34, ⟨[.int .i64], false, 8, [], 0⟩),
 (37, ⟨[.sl [.int .i64, .int .i64, .bool, .str, .str, .int .i64, .bool, .int .i64, .int .i64, .str, .int .i64, .sl [.str, .str], .str, .str, .bool, .int .i64, .int .i64, .int .i64, .bool, .int .i64, .str, .str, .int .i64, .bool, .int .i64, .int .i64, .str, .int .i64, .sl [.str, .str], .bool, .int .i64, .sl [.str, .int .i64, .bool], .sl [.str], .sl [.int .i64]]], false, 24, [], 33⟩),
 (55, ⟨[.sl [.int .i64], .int .i64], true, 32, [(0, 22), (1, 3)], 0⟩),
 (83, ⟨[.str, .int .i64, .bool], true, 32, [(0, 9), (1, 3), (2, 4)], 0⟩),
 (84, ⟨[.int .u64], false, 8, [], 0⟩),
 (87, ⟨[.int .i64, .int .i64, .int .i64, .int .i64, .int .i64, .int .i64, .int .i64, .bool, .bool, .bool, .bool, .str, .str], true, 96, [(0, 3), (1, 3), (2, 3), (3, 3), (4, 3), (5, 3), (6, 3), (7, 4), (8, 4), (9, 4), (10, 4), (11, 9), (12, 9)], 0⟩),
 (100, ⟨[.str, .str], true, 32, [(0, 9), (1, 9)], 0⟩)]
def fnL : List (Nat × Func) := [(18, Go.Proofs.Tryz.f18), (7, Go.Proofs.Tryz.f7), (39, Go.Proofs.Tryz.f39), (41, Go.Proofs.Tryz.f41), (64, Go.Proofs.Tryz.f64), (65, Go.Proofs.Tryz.f65), (66, Go.Proofs.Tryz.f66), (67, Go.Proofs.Tryz.f67), (68, Go.Proofs.Tryz.f68), (40, Go.Proofs.Tryz.f40), (69, Go.Proofs.Tryz.f69), (95, Go.Proofs.Tryz.f95), (84, Go.Proofs.Tryz.f84), (85, Go.Proofs.Tryz.f85), (96, Go.Proofs.Tryz.f96), (86, Go.Proofs.Tryz.f86), (70, Go.Proofs.Tryz.f70), (42, Go.Proofs.Tryz.f42), (43, Go.Proofs.Tryz.f43), (45, Go.Proofs.Tryz.f45), (44, Go.Proofs.Tryz.f44), (71, Go.Proofs.Tryz.f71), (100, Go.Proofs.Tryz.f100), (102, Go.Proofs.Tryz.f102), (97, Go.Proofs.Tryz.f97), (107, Go.Proofs.Tryz.f107), (105, Go.Proofs.Tryz.f105), (103, Go.Proofs.Tryz.f103), (98, Go.Proofs.Tryz.f98), (113, Go.Proofs.Tryz.f113), (112, Go.Proofs.Tryz.f112), (106, Go.Proofs.Tryz.f106), (104, Go.Proofs.Tryz.f104), (99, Go.Proofs.Tryz.f99), (88, Go.Proofs.Tryz.f88), (89, Go.Proofs.Tryz.f89), (87, Go.Proofs.Tryz.f87), (72, Go.Proofs.Tryz.f72), (46, Go.Proofs.Tryz.f46), (47, Go.Proofs.Tryz.f47), (48, Go.Proofs.Tryz.f48), (20, Go.Proofs.Tryz.f20), (83, Go.Proofs.Tryz.f83), (62, Go.Proofs.Tryz.f62), (63, Go.Proofs.Tryz.f63), (38, Go.Proofs.Tryz.f38), (19, Go.Proofs.Tryz.f19), (21, Go.Proofs.Tryz.f21), (49, Go.Proofs.Tryz.f49), (22, Go.Proofs.Tryz.f22), (23, Go.Proofs.Tryz.f23), (9, Go.Proofs.Tryz.f9), (56, Go.Proofs.Tryz.f56), (30, Go.Proofs.Tryz.f30), (16, Go.Proofs.Tryz.f16), (14, Go.Proofs.Tryz.f14), (8, Go.Proofs.Tryz.f8), (31, Go.Proofs.Tryz.f31), (75, Go.Proofs.Tryz.f75), (50, Go.Proofs.Tryz.f50), (51, Go.Proofs.Tryz.f51), (52, Go.Proofs.Tryz.f52), (53, Go.Proofs.Tryz.f53), (54, Go.Proofs.Tryz.f54), (27, Go.Proofs.Tryz.f27), (76, Go.Proofs.Tryz.f76), (77, Go.Proofs.Tryz.f77), (57, Go.Proofs.Tryz.f57), (92, Go.Proofs.Tryz.f92), (94, Go.Proofs.Tryz.f94), (91, Go.Proofs.Tryz.f91), (78, Go.Proofs.Tryz.f78), (93, Go.Proofs.Tryz.f93), (79, Go.Proofs.Tryz.f79), (59, Go.Proofs.Tryz.f59), (58, Go.Proofs.Tryz.f58), (32, Go.Proofs.Tryz.f32), (35, Go.Proofs.Tryz.f35), (33, Go.Proofs.Tryz.f33), (34, Go.Proofs.Tryz.f34), (36, Go.Proofs.Tryz.f36), (82, Go.Proofs.Tryz.f82), (81, Go.Proofs.Tryz.f81), (80, Go.Proofs.Tryz.f80), (61, Go.Proofs.Tryz.f61), (60, Go.Proofs.Tryz.f60), (37, Go.Proofs.Tryz.f37), (17, Go.Proofs.Tryz.f17), (24, Go.Proofs.Tryz.f24), (29, Go.Proofs.Tryz.f29), (15, Go.Proofs.Tryz.f15), (25, Go.Proofs.Tryz.f25), (10, Go.Proofs.Tryz.f10), (55, Go.Proofs.Tryz.f55), (28, Go.Proofs.Tryz.f28), (26, Go.Proofs.Tryz.f26), (11, Go.Proofs.Tryz.f11), (12, Go.Proofs.Tryz.f12), (13, Go.Proofs.Tryz.f13), (5, Go.Proofs.Tryz.f5)]
def tmL : List (Nat × (List Sh × List (TypeId × List Sh))) := [(18, ([.int .i64], [])),
 (7, ([.int .i64], [])),
 (39, ([.bool], [])),
 (41, ([api_Packet.sh], [])),
 (64, ([packet_plain.sh], [])),
 (65, ([.bool], [])),
 (66, ([.bool], [])),
 (67, ([.bool], [])),
 (68, ([.bool], [])),
 (40, ([.bool], [])),
 (69, ([.bool], [])),
 (95, ([.bool], [])),
 (84, ([.bool], [])),
 (85, ([.bool], [])),
 (96, ([.bool], [])),
 (86, ([.int .i64], [])),
 (70, ([.int .i64], [])),
 (42, ([.int .i64], [])),
 (43, ([.bool], [])),
 (45, ([.int .i64], [])),
 (44, ([.int .i64], [])),
 (71, ([.int .i64], [])),
 (100, ([.bool], [])),
 (102, ([.str, .bool], [])),
 (97, ([.str, .bool], [])),
 (107, ([.int .i64], [])),
 (105, ([.int .i64], [])),
 (103, ([.str, .str, .bool], [])),
 (98, ([.str, .str, .bool], [])),
 (113, ([.int .i64], [])),
 (112, ([.int .i64], [])),
 (106, ([.sl [.str]], [])),
 (104, ([.sl [.str]], [])),
 (99, ([.sl [.str]], [])),
 (88, ([.bool], [])),
 (89, ([.bool], [])),
 (87, ([.str, .str, .bool], [])),
 (72, ([.bool, .bool], [])),
 (46, ([.int .i64], [])),
 (47, ([.int .i64], [])),
 (48, ([.int .i64], [])),
 (20, ([.int .i64], [])),
 (83, ([.bool], [])),
 (62, ([.bool], [])),
 (63, ([.bool], [])),
 (38, ([.int .i64, .bool], [])),
 (19, ([.bool], [])),
 (21, ([.row 0 [.int .i64] 3 8], [])),
 (49, ([.row 0 [.int .i64] 3 8], [])),
 (22, ([.row 0 [.int .i64] 3 8], [])),
 (23, ([api_Packet.sh, .bool], [])),
 (9, ([api_Inbox.sh, .bool, .row 0 api_Packet.ks 33 416, .int .i64], [])),
 (56, ([.row 0 [.int .i64] 3 8], [])),
 (30, ([.row 0 [.int .i64] 3 8], [])),
 (16, ([api_Inbox.sh, api_Packet.sh, .int .i64], [])),
 (14, ([.int .i64], [])),
 (8, ([.bool], [])),
 (31, ([api_Packet.sh], [])),
 (75, ([.bool], [])),
 (50, ([.bool], [])),
 (51, ([.bool], [])),
 (52, ([.bool], [])),
 (53, ([.bool], [])),
 (54, ([.bool], [])),
 (27, ([.bool], [])),
 (76, ([.bool], [])),
 (77, ([.bool], [])),
 (57, ([.bool], [])),
 (92, ([.bool], [])),
 (94, ([.row 0 [.str] 9 16], [])),
 (91, ([.bool], [])),
 (78, ([.bool], [])),
 (93, ([.bool], [])),
 (79, ([.int .i64], [])),
 (59, ([.int .i64], [])),
 (58, ([.int .i64], [])),
 (32, ([.int .i64], [])),
 (35, ([.int .i64], [])),
 (33, ([.int .i64], [])),
 (34, ([.bool], [])),
 (36, ([.int .i64], [])),
 (82, ([.bool], [])),
 (81, ([.bool], [])),
 (80, ([.str, .str, .bool], [])),
 (61, ([.bool], [])),
 (60, ([.int .i64], [])),
 (37, ([.int .i64], [])),
 (17, ([.int .i64], [])),
 (24, ([.row 0 api_Packet.ks 33 416], [])),
 (29, ([.bool], [])),
 (15, ([.bool], [])),
 (25, ([.row 0 [.int .i64] 3 8], [])),
 (10, ([api_Inbox.sh, .bool, .row 0 api_Packet.ks 33 416, .int .i64], [])),
 (55, ([api_Pool.sh, .bool], [])),
 (28, ([api_Inbox.sh, api_Packet.sh, .int .i64], [])),
 (26, ([.bool], [])),
 (11, ([.bool], [])),
 (12, ([.bool], [])),
 (13, ([api_Inbox.sh, .bool, .bool], [])),
 (5, ([.bool], []))]
def mvL : List (Nat × Bool) := [(49, true), (56, true)]
def hlL : List (Nat × List (Nat × Hint)) := [(18, [(4, ⟨[(1, .ptr 1000000000 0), (3, .int .i64)], [(55, api_Pool.shs)], []⟩)]),
 (65, [(4, ⟨[(3, .ptr 1000000000 0), (71, .sl api_Prop.ks), (72, .int .i64), (73, .int .i64)], [(27, api_Message.shs)], []⟩)]),
 (66, [(4, ⟨[(1, .sl api_Sub.ks), (12, .sl api_Sub.ks), (13, .int .i64), (14, .int .i64)], [], []⟩)]),
 (67, [(4, ⟨[(1, .sl [.str]), (12, .sl [.str]), (13, .int .i64), (14, .int .i64)], [], []⟩)]),
 (68, [(4, ⟨[(1, .sl [.int .i64]), (12, .sl [.int .i64]), (13, .int .i64), (14, .int .i64)], [], []⟩)]),
 (69, [(4, ⟨[(15, .it 4000)], [], []⟩)]),
 (95, [(5, ⟨[(3, .int .i64), (15, .it 4000)], [], []⟩)]),
 (84, [(4, ⟨[(9, .it 4000)], [], []⟩)]),
 (96, [(4, ⟨[(0, .str), (3, .int .i64)], [], []⟩)]),
 (86, [(4, ⟨[(0, .sl api_Prop.ks), (8, .sl api_Prop.ks), (9, .int .i64), (10, .int .i64)], [], []⟩)]),
 (112, [(6, ⟨[(0, .str), (1, .str), (5, .int .i64)], [], []⟩)]),
 (106, [(11, ⟨[(0, .str), (1, .str), (2, .int .i64), (3, .int .i64), (9, .row 3009 [.str] 9 16), (10, .int .i64)], [], []⟩)]),
 (88, [(6, ⟨[(3, .sl [.str]), (4, .bool), (15, .sl [.str]), (16, .int .i64), (17, .int .i64)], [], []⟩), (9, ⟨[(3, .sl [.str]), (4, .bool), (5, .int .i64), (6, .str), (15, .sl [.str]), (16, .int .i64), (17, .int .i64), (23, .it 4000)], [], []⟩)]),
 (46, [(5, ⟨[(18, .sl api_Sub.ks), (19, .int .i64), (20, .int .i64)], [], []⟩)]),
 (47, [(5, ⟨[(16, .sl [.int .i64]), (17, .int .i64), (18, .int .i64)], [], []⟩)]),
 (48, [(5, ⟨[(18, .sl [.str]), (19, .int .i64), (20, .int .i64)], [], []⟩)]),
 (38, [(3, ⟨[(0, .sl [.int .i64]), (1, .int .i64), (6, .int .i64), (7, .int .i64), (8, .int .i64)], [], []⟩)]),
 (14, [(5, ⟨[(3, .int .i64), (11, .sl [.int .i64]), (12, .int .i64), (13, .int .i64)], [], []⟩)]),
 (75, [(4, ⟨[(0, .sl api_Prop.ks), (1, .sl api_Prop.ks), (5, .int .i64)], [], []⟩)]),
 (52, [(4, ⟨[(0, .sl api_Sub.ks), (1, .sl api_Sub.ks), (5, .int .i64)], [], []⟩)]),
 (53, [(4, ⟨[(0, .sl [.str]), (1, .sl [.str]), (5, .int .i64)], [], []⟩)]),
 (54, [(4, ⟨[(0, .sl [.int .i64]), (1, .sl [.int .i64]), (5, .int .i64)], [], []⟩)]),
 (57, [(4, ⟨[(0, .str), (3, .int .i64)], [], []⟩)]),
 (92, [(2, ⟨[(0, .str), (1, .int .u8), (5, .int .i64)], [], []⟩)]),
 (94, [(4, ⟨[(0, .str), (3, .row 3003 [.str] 9 16), (4, .int .i64), (5, .int .i64)], [], []⟩)]),
 (93, [(4, ⟨[(0, .str), (3, .int .i64)], [], []⟩)]),
 (79, [(4, ⟨[(0, .sl api_Prop.ks), (3, .int .i64)], [], []⟩)]),
 (81, [(5, ⟨[(3, .row 3003 [.str] 9 16), (4, .int .i64)], [], []⟩)]),
 (80, [(5, ⟨[(5, .str), (6, .int .i64)], [], []⟩)]),
 (37, [(2, ⟨[(1, .ptr 1000000000 0), (3, .int .i64)], [(33, api_Packet.shs)], []⟩), (8, ⟨[(1, .ptr 1000000000 0), (5, .int .i64)], [(33, api_Packet.shs)], []⟩), (13, ⟨[(1, .ptr 1000000000 0), (6, .int .i64)], [(33, api_Packet.shs)], []⟩)]),
 (29, [(2, ⟨[(1, .int .i64), (2, .ptr 1000000000 0), (5, .int .i64)], [(55, api_Pool.shs)], []⟩)]),
 (25, [(3, ⟨[(0, .sl [.int .i64]), (1, .int .i64), (5, .row 3005 [.int .i64] 3 8), (6, .int .i64)], [], []⟩)]),
 (55, [(3, ⟨[(1, .int .i64), (2, .ptr 1000000000 0), (4, .ptr 1000000001 0), (6, .row 3006 [.int .i64] 3 8), (7, .int .i64)], [(55, api_Pool.shs), (55, api_Pool.shs)], []⟩)]),
 (26, [(4, ⟨[(0, .sl [.int .i64]), (1, .sl [.int .i64]), (5, .int .i64)], [], []⟩)]),
 (12, [(4, ⟨[(0, .sl api_Packet.ks), (1, .sl api_Packet.ks), (5, .int .i64)], [], []⟩)]),
 (5, [(8, ⟨[(2, .sl api_Packet.ks), (3, .int .u8), (4, .ptr 1000000000 0), (5, .ptr 1000000001 0), (13, .int .i64), (14, .int .i64)], [(24, api_Inbox.shs), (33, api_Packet.shs)], []⟩)])]
def hrL : List (Nat × List (Nat × Hint)) := [(65, [(3, ⟨[(2, .ptr 1000000000 0), (3, .ptr 1000000001 0)], [(27, api_Message.shs), (27, api_Message.shs)], []⟩)]),
 (69, [(3, ⟨[(0, .str)], [], []⟩), (7, ⟨[(3, .int .i64), (4, .int .i32), (5, .bool), (15, .it 4000)], [], []⟩)]),
 (95, [(3, ⟨[(0, .str)], [], []⟩)]),
 (96, [(3, ⟨[(0, .str)], [], []⟩)]),
 (106, [(7, ⟨[(0, .str), (1, .str), (2, .int .i64), (3, .int .i64)], [], []⟩), (17, ⟨[(0, .str), (9, .row 3009 [.str] 9 16), (10, .int .i64)], [], []⟩)]),
 (9, [(7, ⟨[(2, .ptr 1000000000 0), (3, .ptr 1000000001 0), (4, .ptr 1000000002 0), (9, .bool)], [(24, api_Inbox.shs), (33, api_Packet.shs), (24, api_Inbox.shs)], []⟩), (9, ⟨[(2, .ptr 1000000000 0), (3, .ptr 1000000001 0), (4, .ptr 1000000002 0), (9, .bool)], [(24, api_Inbox.shs), (33, api_Packet.shs), (24, api_Inbox.shs)], []⟩), (12, ⟨[(3, .ptr 1000000000 0), (4, .ptr 1000000001 0), (9, .bool), (10, .ptr 1000000002 0)], [(33, api_Packet.shs), (24, api_Inbox.shs), (24, [.row 50200 [.int .i64] 3 8])], []⟩)]),
 (16, [(5, ⟨[(2, .ptr 1000000000 0), (3, .ptr 1000000001 0), (4, .ptr 1000000002 0), (5, .ptr 1000000003 0)], [(24, api_Inbox.shs), (33, api_Packet.shs), (24, api_Inbox.shs), (33, api_Packet.shs)], []⟩)]),
 (31, [(4, ⟨[(1, .ptr 1000000000 0), (2, .ptr 1000000001 0), (3, .ptr 1000000002 0)], [(33, api_Packet.shs), (33, api_Packet.shs), (33, api_Packet.shs)], []⟩), (12, ⟨[(1, .ptr 1000000000 0), (2, .ptr 1000000001 0), (3, .ptr 1000000002 0)], [(33, api_Packet.shs), (33, api_Packet.shs), (33, api_Packet.shs)], []⟩), (14, ⟨[(1, .ptr 1000000000 0), (2, .ptr 1000000001 0), (3, .ptr 1000000002 0)], [(33, api_Packet.shs), (33, api_Packet.shs), (33, api_Packet.shs)], []⟩), (16, ⟨[(1, .ptr 1000000000 0), (2, .ptr 1000000001 0), (3, .ptr 1000000002 0)], [(33, api_Packet.shs), (33, api_Packet.shs), (33, api_Packet.shs)], []⟩), (19, ⟨[(1, .ptr 1000000000 0), (2, .ptr 1000000001 0), (3, .ptr 1000000002 0)], [(33, api_Packet.shs), (33, api_Packet.shs), (33, api_Packet.shs)], []⟩), (21, ⟨[(1, .ptr 1000000000 0), (2, .ptr 1000000001 0), (3, .ptr 1000000002 0)], [(33, api_Packet.shs), (33, api_Packet.shs), (33, api_Packet.shs)], []⟩), (23, ⟨[(1, .ptr 1000000000 0), (2, .ptr 1000000001 0), (3, .ptr 1000000002 0)], [(33, api_Packet.shs), (33, api_Packet.shs), (33, api_Packet.shs)], []⟩)]),
 (27, [(3, ⟨[(2, .ptr 1000000000 0), (3, .ptr 1000000001 0)], [(33, api_Packet.shs), (33, api_Packet.shs)], []⟩), (5, ⟨[(2, .ptr 1000000000 0), (3, .ptr 1000000001 0)], [(33, api_Packet.shs), (33, api_Packet.shs)], []⟩)]),
 (57, [(3, ⟨[(0, .str)], [], []⟩)]),
 (93, [(3, ⟨[(0, .str)], [], []⟩)]),
 (59, [(7, ⟨[(1, .ptr 1000000000 0)], [(27, api_Message.shs)], []⟩), (9, ⟨[(1, .ptr 1000000000 0)], [(27, api_Message.shs)], []⟩), (11, ⟨[(1, .ptr 1000000000 0)], [(27, api_Message.shs)], []⟩)]),
 (32, [(3, ⟨[(1, .ptr 1000000000 0)], [(33, api_Packet.shs)], []⟩)]),
 (81, [(9, ⟨[(3, .row 3003 [.str] 9 16), (4, .int .i64)], [], []⟩)]),
 (80, [(7, ⟨[(5, .str), (6, .int .i64)], [], []⟩), (9, ⟨[(5, .str), (6, .int .i64)], [], []⟩)]),
 (60, [(5, ⟨[(1, .ptr 1000000000 0)], [(83, api_Sub.shs)], []⟩)]),
 (17, [(3, ⟨[(1, .ptr 1000000000 0)], [(33, api_Packet.shs)], []⟩), (15, ⟨[(1, .ptr 1000000000 0)], [(33, api_Packet.shs)], []⟩), (17, ⟨[(1, .ptr 1000000000 0)], [(33, api_Packet.shs)], []⟩), (20, ⟨[(1, .ptr 1000000000 0)], [(33, api_Packet.shs)], []⟩)]),
 (25, [(4, ⟨[(0, .sl [.int .i64]), (1, .int .i64), (5, .row 3005 [.int .i64] 3 8), (6, .int .i64), (12, .sl [.int .i64]), (13, .int .i64), (15, .int .i64), (16, .int .i64), (17, .bool)], [], []⟩), (6, ⟨[(0, .sl [.int .i64]), (1, .int .i64), (5, .row 3005 [.int .i64] 3 8), (6, .int .i64)], [], []⟩)]),
 (28, [(5, ⟨[(2, .ptr 1000000000 0), (3, .ptr 1000000001 0), (4, .ptr 1000000002 0), (5, .ptr 1000000003 0)], [(24, api_Inbox.shs), (33, api_Packet.shs), (24, api_Inbox.shs), (33, api_Packet.shs)], []⟩)]),
 (5, [(6, ⟨[(2, .sl api_Packet.ks), (3, .int .u8), (4, .ptr 1000000000 0), (5, .ptr 1000000001 0)], [(24, api_Inbox.shs), (33, api_Packet.shs)], []⟩), (13, ⟨[(2, .sl api_Packet.ks), (3, .int .u8), (4, .ptr 1000000000 0), (5, .ptr 1000000001 0), (13, .int .i64), (14, .int .i64), (15, .ptr 1000000002 0), (16, .bool), (73, .row 3073 api_Packet.ks 33 416), (74, .int .i64), (75, .bool), (78, .row 3073 api_Packet.ks 33 416), (81, .int .i64), (82, .bool), (85, .row 3073 api_Packet.ks 33 416), (88, .int .i64), (89, .ptr 1000000001 1), (90, .int .i64), (91, .bool)], [(24, api_Inbox.shs), (33, api_Packet.shs), (24, api_Inbox.shs)], []⟩), (15, ⟨[(2, .sl api_Packet.ks), (3, .int .u8), (4, .ptr 1000000000 0), (5, .ptr 1000000001 0), (13, .int .i64), (14, .int .i64), (15, .ptr 1000000002 0), (73, .row 3073 api_Packet.ks 33 416), (74, .int .i64), (75, .bool), (78, .row 3073 api_Packet.ks 33 416), (81, .int .i64), (82, .bool), (85, .row 3073 api_Packet.ks 33 416), (88, .int .i64), (89, .ptr 1000000001 1), (90, .int .i64), (91, .bool)], [(24, api_Inbox.shs), (33, api_Packet.shs), (24, api_Inbox.shs)], []⟩)])]
def eqL : List (Nat × List CK) := [(83, [.str, .int .i64, .bool]), (87, [.int .i64, .int .i64, .int .i64, .int .i64, .int .i64, .int .i64, .int .i64, .bool, .bool, .bool, .bool, .str, .str]), (100, [.str, .str])]
def prL : List (Nat × Prim) := [(114, .indexByte), (118, .countByte)]
def lbL : List (Nat × LibK) := [(49, .insert [.int .i64] 3 8), (56, .spec (delF [.int .i64] 3 8))]
def SE : Env := { fn := assoc fnL, ty := assoc tyL, tm := assoc tmL, mv := fun f => match assoc mvL f with | some b => b | none => false, eqt := assoc eqL, pv := fun _ => none, hl := fun f r => match assoc hlL f with | some l => assoc l r | none => none, hr := fun f r => match assoc hrL f with | some l => assoc l r | none => none, prim := assoc prL, lib := assoc lbL }
def brokerref13_Check_out : (Int) → Out := fun r => .ret [.d (.int .i64 r)] [] []
theorem brokerref13_Check_inj : ∀ y z, brokerref13_Check_out y = brokerref13_Check_out z → y = z := fun y z h => congrArg (fun o => dInt (avD (nthA 0 (Out.res o)))) h
def brokerref15_Check_out : (Int) → Out := fun r => .ret [.d (.int .i64 r)] [] []
theorem brokerref15_Check_inj : ∀ y z, brokerref15_Check_out y = brokerref15_Check_out z → y = z := fun y z h => congrArg (fun o => dInt (avD (nthA 0 (Out.res o)))) h
def packet_is_out : (Bool) → Out := fun r => .ret [.d (.bool r)] [] []
theorem packet_is_inj : ∀ y z, packet_is_out y = packet_is_out z → y = z := fun y z h => congrArg (fun o => dBool (avD (nthA 0 (Out.res o)))) h
def packet_used_out : (api_Packet) → Out := fun r => .ret [api_Packet.av r] [] []
theorem packet_used_inj : ∀ y z, packet_used_out y = packet_used_out z → y = z := fun y z h => api_Packet.inj (congrArg (fun o => List.map avD (cellsOf (nthA 0 (Out.res o)))) h)
def packet_plainOf_out : (packet_plain) → Out := fun r => .ret [packet_plain.av r] [] []
theorem packet_plainOf_inj : ∀ y z, packet_plainOf_out y = packet_plainOf_out z → y = z := fun y z h => packet_plain.inj (congrArg (fun o => List.map avD (cellsOf (nthA 0 (Out.res o)))) h)
def message_Same_out : (Bool) → Out := fun r => .ret [.d (.bool r)] [] []
theorem message_Same_inj : ∀ y z, message_Same_out y = message_Same_out z → y = z := fun y z h => congrArg (fun o => dBool (avD (nthA 0 (Out.res o)))) h
def packet_subs_out : (Bool) → Out := fun r => .ret [.d (.bool r)] [] []
theorem packet_subs_inj : ∀ y z, packet_subs_out y = packet_subs_out z → y = z := fun y z h => congrArg (fun o => dBool (avD (nthA 0 (Out.res o)))) h
def packet_texts_out : (Bool) → Out := fun r => .ret [.d (.bool r)] [] []
theorem packet_texts_inj : ∀ y z, packet_texts_out y = packet_texts_out z → y = z := fun y z h => congrArg (fun o => dBool (avD (nthA 0 (Out.res o)))) h
def packet_numbers_out : (Bool) → Out := fun r => .ret [.d (.bool r)] [] []
theorem packet_numbers_inj : ∀ y z, packet_numbers_out y = packet_numbers_out z → y = z := fun y z h => congrArg (fun o => dBool (avD (nthA 0 (Out.res o)))) h
def packet_Same_out : (Bool) → Out := fun r => .ret [.d (.bool r)] [] []
theorem packet_Same_inj : ∀ y z, packet_Same_out y = packet_Same_out z → y = z := fun y z h => congrArg (fun o => dBool (avD (nthA 0 (Out.res o)))) h
def topic_Name_out : (Bool) → Out := fun r => .ret [.d (.bool r)] [] []
theorem topic_Name_inj : ∀ y z, topic_Name_out y = topic_Name_out z → y = z := fun y z h => congrArg (fun o => dBool (avD (nthA 0 (Out.res o)))) h
def topic_sized_out : (Bool) → Out := fun r => .ret [.d (.bool r)] [] []
theorem topic_sized_inj : ∀ y z, topic_sized_out y = topic_sized_out z → y = z := fun y z h => congrArg (fun o => dBool (avD (nthA 0 (Out.res o)))) h
def topic_Valid_out : (Bool) → Out := fun r => .ret [.d (.bool r)] [] []
theorem topic_Valid_inj : ∀ y z, topic_Valid_out y = topic_Valid_out z → y = z := fun y z h => congrArg (fun o => dBool (avD (nthA 0 (Out.res o)))) h
def message_is_out : (Bool) → Out := fun r => .ret [.d (.bool r)] [] []
theorem message_is_inj : ∀ y z, message_is_out y = message_is_out z → y = z := fun y z h => congrArg (fun o => dBool (avD (nthA 0 (Out.res o)))) h
def message_key_out : (Bool) → Out := fun r => .ret [.d (.bool r)] [] []
theorem message_key_inj : ∀ y z, message_key_out y = message_key_out z → y = z := fun y z h => congrArg (fun o => dBool (avD (nthA 0 (Out.res o)))) h
def message_Props_out : (Int) → Out := fun r => .ret [.d (.int .i64 r)] [] []
theorem message_Props_inj : ∀ y z, message_Props_out y = message_Props_out z → y = z := fun y z h => congrArg (fun o => dInt (avD (nthA 0 (Out.res o)))) h
def message_Check_out : (Int) → Out := fun r => .ret [.d (.int .i64 r)] [] []
theorem message_Check_inj : ∀ y z, message_Check_out y = message_Check_out z → y = z := fun y z h => congrArg (fun o => dInt (avD (nthA 0 (Out.res o)))) h
def packet_connect_out : (Int) → Out := fun r => .ret [.d (.int .i64 r)] [] []
theorem packet_connect_inj : ∀ y z, packet_connect_out y = packet_connect_out z → y = z := fun y z h => congrArg (fun o => dInt (avD (nthA 0 (Out.res o)))) h
def packet_code_out : (Bool) → Out := fun r => .ret [.d (.bool r)] [] []
theorem packet_code_inj : ∀ y z, packet_code_out y = packet_code_out z → y = z := fun y z h => congrArg (fun o => dBool (avD (nthA 0 (Out.res o)))) h
def packet_ident_out : (Int) → Out := fun r => .ret [.d (.int .i64 r)] [] []
theorem packet_ident_inj : ∀ y z, packet_ident_out y = packet_ident_out z → y = z := fun y z h => congrArg (fun o => dInt (avD (nthA 0 (Out.res o)))) h
def packet_publish_out : (Int) → Out := fun r => .ret [.d (.int .i64 r)] [] []
theorem packet_publish_inj : ∀ y z, packet_publish_out y = packet_publish_out z → y = z := fun y z h => congrArg (fun o => dInt (avD (nthA 0 (Out.res o)))) h
def packet_counted_out : (Int) → Out := fun r => .ret [.d (.int .i64 r)] [] []
theorem packet_counted_inj : ∀ y z, packet_counted_out y = packet_counted_out z → y = z := fun y z h => congrArg (fun o => dInt (avD (nthA 0 (Out.res o)))) h
def stringslite_HasPrefix_out : (Bool) → Out := fun r => .ret [.d (.bool r)] [] []
theorem stringslite_HasPrefix_inj : ∀ y z, stringslite_HasPrefix_out y = stringslite_HasPrefix_out z → y = z := fun y z h => congrArg (fun o => dBool (avD (nthA 0 (Out.res o)))) h
def stringslite_CutPrefix_out : (Str × Bool) → Out := fun r => .ret [.d (.str r.1), .d (.bool r.2)] [] []
theorem stringslite_CutPrefix_inj : ∀ y z, stringslite_CutPrefix_out y = stringslite_CutPrefix_out z → y = z := fun y z h => Prod.ext (congrArg (fun o => dStr (avD (nthA 0 (Out.res o)))) h) (congrArg (fun o => dBool (avD (nthA 1 (Out.res o)))) h)
def strings_CutPrefix_out : (Str × Bool) → Out := fun r => .ret [.d (.str r.1), .d (.bool r.2)] [] []
theorem strings_CutPrefix_inj : ∀ y z, strings_CutPrefix_out y = strings_CutPrefix_out z → y = z := fun y z h => Prod.ext (congrArg (fun o => dStr (avD (nthA 0 (Out.res o)))) h) (congrArg (fun o => dBool (avD (nthA 1 (Out.res o)))) h)
def stringslite_IndexByte_out : (Int) → Out := fun r => .ret [.d (.int .i64 r)] [] []
theorem stringslite_IndexByte_inj : ∀ y z, stringslite_IndexByte_out y = stringslite_IndexByte_out z → y = z := fun y z h => congrArg (fun o => dInt (avD (nthA 0 (Out.res o)))) h
def stringslite_Index_out : (Int) → Out := fun r => .ret [.d (.int .i64 r)] [] []
theorem stringslite_Index_inj : ∀ y z, stringslite_Index_out y = stringslite_Index_out z → y = z := fun y z h => congrArg (fun o => dInt (avD (nthA 0 (Out.res o)))) h
def stringslite_Cut_out : (Str × Str × Bool) → Out := fun r => .ret [.d (.str r.1), .d (.str r.2.1), .d (.bool r.2.2)] [] []
theorem stringslite_Cut_inj : ∀ y z, stringslite_Cut_out y = stringslite_Cut_out z → y = z := fun y z h => Prod.ext (congrArg (fun o => dStr (avD (nthA 0 (Out.res o)))) h) (Prod.ext (congrArg (fun o => dStr (avD (nthA 1 (Out.res o)))) h) (congrArg (fun o => dBool (avD (nthA 2 (Out.res o)))) h))
def strings_Cut_out : (Str × Str × Bool) → Out := fun r => .ret [.d (.str r.1), .d (.str r.2.1), .d (.bool r.2.2)] [] []
theorem strings_Cut_inj : ∀ y z, strings_Cut_out y = strings_Cut_out z → y = z := fun y z h => Prod.ext (congrArg (fun o => dStr (avD (nthA 0 (Out.res o)))) h) (Prod.ext (congrArg (fun o => dStr (avD (nthA 1 (Out.res o)))) h) (congrArg (fun o => dBool (avD (nthA 2 (Out.res o)))) h))
def strings_Index_out : (Int) → Out := fun r => .ret [.d (.int .i64 r)] [] []
theorem strings_Index_inj : ∀ y z, strings_Index_out y = strings_Index_out z → y = z := fun y z h => congrArg (fun o => dInt (avD (nthA 0 (Out.res o)))) h
def strings_Count_out : (Int) → Out := fun r => .ret [.d (.int .i64 r)] [] []
theorem strings_Count_inj : ∀ y z, strings_Count_out y = strings_Count_out z → y = z := fun y z h => congrArg (fun o => dInt (avD (nthA 0 (Out.res o)))) h
def strings_genSplit_out : ((List Str)) → Out := fun r => .ret [.d (.sl [.str] (List.map encS r))] [] []
theorem strings_genSplit_inj : ∀ y z, strings_genSplit_out y = strings_genSplit_out z → y = z := fun y z h => map_inj encS_inj (congrArg (fun o => dSl (avD (nthA 0 (Out.res o)))) h)
def strings_Split_out : ((List Str)) → Out := fun r => .ret [.d (.sl [.str] (List.map encS r))] [] []
theorem strings_Split_inj : ∀ y z, strings_Split_out y = strings_Split_out z → y = z := fun y z h => map_inj encS_inj (congrArg (fun o => dSl (avD (nthA 0 (Out.res o)))) h)
def topic_Levels_out : ((List Str)) → Out := fun r => .ret [.d (.sl [.str] (List.map encS r))] [] []
theorem topic_Levels_inj : ∀ y z, topic_Levels_out y = topic_Levels_out z → y = z := fun y z h => map_inj encS_inj (congrArg (fun o => dSl (avD (nthA 0 (Out.res o)))) h)
def topic_Filter_out : (Bool) → Out := fun r => .ret [.d (.bool r)] [] []
theorem topic_Filter_inj : ∀ y z, topic_Filter_out y = topic_Filter_out z → y = z := fun y z h => congrArg (fun o => dBool (avD (nthA 0 (Out.res o)))) h
def strings_HasPrefix_out : (Bool) → Out := fun r => .ret [.d (.bool r)] [] []
theorem strings_HasPrefix_inj : ∀ y z, strings_HasPrefix_out y = strings_HasPrefix_out z → y = z := fun y z h => congrArg (fun o => dBool (avD (nthA 0 (Out.res o)))) h
def topic_Shared_out : (Str × Str × Bool) → Out := fun r => .ret [.d (.str r.1), .d (.str r.2.1), .d (.bool r.2.2)] [] []
theorem topic_Shared_inj : ∀ y z, topic_Shared_out y = topic_Shared_out z → y = z := fun y z h => Prod.ext (congrArg (fun o => dStr (avD (nthA 0 (Out.res o)))) h) (Prod.ext (congrArg (fun o => dStr (avD (nthA 1 (Out.res o)))) h) (congrArg (fun o => dBool (avD (nthA 2 (Out.res o)))) h))
def packet_wanted_out : (Bool × Bool) → Out := fun r => .ret [.d (.bool r.1), .d (.bool r.2)] [] []
theorem packet_wanted_inj : ∀ y z, packet_wanted_out y = packet_wanted_out z → y = z := fun y z h => Prod.ext (congrArg (fun o => dBool (avD (nthA 0 (Out.res o)))) h) (congrArg (fun o => dBool (avD (nthA 1 (Out.res o)))) h)
def packet_subscribe_out : (Int) → Out := fun r => .ret [.d (.int .i64 r)] [] []
theorem packet_subscribe_inj : ∀ y z, packet_subscribe_out y = packet_subscribe_out z → y = z := fun y z h => congrArg (fun o => dInt (avD (nthA 0 (Out.res o)))) h
def packet_codes_out : (Int) → Out := fun r => .ret [.d (.int .i64 r)] [] []
theorem packet_codes_inj : ∀ y z, packet_codes_out y = packet_codes_out z → y = z := fun y z h => congrArg (fun o => dInt (avD (nthA 0 (Out.res o)))) h
def packet_unsubscribe_out : (Int) → Out := fun r => .ret [.d (.int .i64 r)] [] []
theorem packet_unsubscribe_inj : ∀ y z, packet_unsubscribe_out y = packet_unsubscribe_out z → y = z := fun y z h => congrArg (fun o => dInt (avD (nthA 0 (Out.res o)))) h
def packet_Check_out : (Int) → Out := fun r => .ret [.d (.int .i64 r)] [] []
theorem packet_Check_inj : ∀ y z, packet_Check_out y = packet_Check_out z → y = z := fun y z h => congrArg (fun o => dInt (avD (nthA 0 (Out.res o)))) h
def cmp_isNaN_int__out : (Bool) → Out := fun r => .ret [.d (.bool r)] [] []
theorem cmp_isNaN_int__inj : ∀ y z, cmp_isNaN_int__out y = cmp_isNaN_int__out z → y = z := fun y z h => congrArg (fun o => dBool (avD (nthA 0 (Out.res o)))) h
def cmp_Less_int__out : (Bool) → Out := fun r => .ret [.d (.bool r)] [] []
theorem cmp_Less_int__inj : ∀ y z, cmp_Less_int__out y = cmp_Less_int__out z → y = z := fun y z h => congrArg (fun o => dBool (avD (nthA 0 (Out.res o)))) h
def slices_isNaN_int__out : (Bool) → Out := fun r => .ret [.d (.bool r)] [] []
theorem slices_isNaN_int__inj : ∀ y z, slices_isNaN_int__out y = slices_isNaN_int__out z → y = z := fun y z h => congrArg (fun o => dBool (avD (nthA 0 (Out.res o)))) h
def slices_BinarySearch___int_int__out : (Int × Bool) → Out := fun r => .ret [.d (.int .i64 r.1), .d (.bool r.2)] [] []
theorem slices_BinarySearch___int_int__inj : ∀ y z, slices_BinarySearch___int_int__out y = slices_BinarySearch___int_int__out z → y = z := fun y z h => Prod.ext (congrArg (fun o => dInt (avD (nthA 0 (Out.res o)))) h) (congrArg (fun o => dBool (avD (nthA 1 (Out.res o)))) h)
def inbound_Has_out : (Bool) → Out := fun r => .ret [.d (.bool r)] [] []
theorem inbound_Has_inj : ∀ y z, inbound_Has_out y = inbound_Has_out z → y = z := fun y z h => congrArg (fun o => dBool (avD (nthA 0 (Out.res o)))) h
def slices_Clone___int_int__out : ((List Int)) → Out := fun r => .ret [.row 0] [] [⟨[.int .i64], 3, 8, (List.map (encI .i64) r)⟩]
theorem slices_Clone___int_int__inj : ∀ y z, slices_Clone___int_int__out y = slices_Clone___int_int__out z → y = z := fun y z h => map_inj (encI_inj _) (congrArg (fun o => rowX 0 (Out.rws o)) h)
def slices_Insert___int_int__out : ((List Int)) → Out := fun r => .ret [.row 0] [] [⟨[.int .i64], 3, 8, (List.map (encI .i64) r)⟩]
theorem slices_Insert___int_int__inj : ∀ y z, slices_Insert___int_int__out y = slices_Insert___int_int__out z → y = z := fun y z h => map_inj (encI_inj _) (congrArg (fun o => rowX 0 (Out.rws o)) h)
def inbound_insert_int__out : ((List Int)) → Out := fun r => .ret [.row 0] [] [⟨[.int .i64], 3, 8, (List.map (encI .i64) r)⟩]
theorem inbound_insert_int__inj : ∀ y z, inbound_insert_int__out y = inbound_insert_int__out z → y = z := fun y z h => map_inj (encI_inj _) (congrArg (fun o => rowX 0 (Out.rws o)) h)
def packet_Answer_out : (api_Packet × Bool) → Out := fun r => .ret [api_Packet.av r.1, .d (.bool r.2)] [] []
theorem packet_Answer_inj : ∀ y z, packet_Answer_out y = packet_Answer_out z → y = z := fun y z h => Prod.ext (api_Packet.inj (congrArg (fun o => List.map avD (cellsOf (nthA 0 (Out.res o)))) h)) (congrArg (fun o => dBool (avD (nthA 1 (Out.res o)))) h)
def inbound_Accept_out : (api_Inbox × Bool × (List api_Packet) × Int) → Out := fun r => .ret [api_Inbox.av r.1, .d (.bool r.2.1), .row 0, .d (.int .i64 r.2.2.2)] [] [⟨api_Packet.ks, 33, 416, (List.map api_Packet.enc r.2.2.1)⟩]
theorem inbound_Accept_inj : ∀ y z, inbound_Accept_out y = inbound_Accept_out z → y = z := fun y z h => Prod.ext (api_Inbox.inj (congrArg (fun o => List.map avD (cellsOf (nthA 0 (Out.res o)))) h)) (Prod.ext (congrArg (fun o => dBool (avD (nthA 1 (Out.res o)))) h) (Prod.ext (map_inj api_Packet.inj (congrArg (fun o => rowX 0 (Out.rws o)) h)) (congrArg (fun o => dInt (avD (nthA 3 (Out.res o)))) h)))
def slices_Delete___int_int__out : ((List Int)) → Out := fun r => .ret [.row 0] [] [⟨[.int .i64], 3, 8, (List.map (encI .i64) r)⟩]
theorem slices_Delete___int_int__inj : ∀ y z, slices_Delete___int_int__out y = slices_Delete___int_int__out z → y = z := fun y z h => map_inj (encI_inj _) (congrArg (fun o => rowX 0 (Out.rws o)) h)
def inbound_without_int__out : ((List Int)) → Out := fun r => .ret [.row 0] [] [⟨[.int .i64], 3, 8, (List.map (encI .i64) r)⟩]
theorem inbound_without_int__inj : ∀ y z, inbound_without_int__out y = inbound_without_int__out z → y = z := fun y z h => map_inj (encI_inj _) (congrArg (fun o => rowX 0 (Out.rws o)) h)
def inbound_Release_out : (api_Inbox × api_Packet × Int) → Out := fun r => .ret [api_Inbox.av r.1, api_Packet.av r.2.1, .d (.int .i64 r.2.2)] [] []
theorem inbound_Release_inj : ∀ y z, inbound_Release_out y = inbound_Release_out z → y = z := fun y z h => Prod.ext (api_Inbox.inj (congrArg (fun o => List.map avD (cellsOf (nthA 0 (Out.res o)))) h)) (Prod.ext (api_Packet.inj (congrArg (fun o => List.map avD (cellsOf (nthA 1 (Out.res o)))) h)) (congrArg (fun o => dInt (avD (nthA 2 (Out.res o)))) h))
def inbound_Check_out : (Int) → Out := fun r => .ret [.d (.int .i64 r)] [] []
theorem inbound_Check_inj : ∀ y z, inbound_Check_out y = inbound_Check_out z → y = z := fun y z h => congrArg (fun o => dInt (avD (nthA 0 (Out.res o)))) h
def brokerlaw15_awake_out : (Bool) → Out := fun r => .ret [.d (.bool r)] [] []
theorem brokerlaw15_awake_inj : ∀ y z, brokerlaw15_awake_out y = brokerlaw15_awake_out z → y = z := fun y z h => congrArg (fun o => dBool (avD (nthA 0 (Out.res o)))) h
def brokerref06_Used_out : (api_Packet) → Out := fun r => .ret [api_Packet.av r] [] []
theorem brokerref06_Used_inj : ∀ y z, brokerref06_Used_out y = brokerref06_Used_out z → y = z := fun y z h => api_Packet.inj (congrArg (fun o => List.map avD (cellsOf (nthA 0 (Out.res o)))) h)
def brokerref05_SameProps_out : (Bool) → Out := fun r => .ret [.d (.bool r)] [] []
theorem brokerref05_SameProps_inj : ∀ y z, brokerref05_SameProps_out y = brokerref05_SameProps_out z → y = z := fun y z h => congrArg (fun o => dBool (avD (nthA 0 (Out.res o)))) h
def brokerref05_Same_out : (Bool) → Out := fun r => .ret [.d (.bool r)] [] []
theorem brokerref05_Same_inj : ∀ y z, brokerref05_Same_out y = brokerref05_Same_out z → y = z := fun y z h => congrArg (fun o => dBool (avD (nthA 0 (Out.res o)))) h
def brokerref06_SameWill_out : (Bool) → Out := fun r => .ret [.d (.bool r)] [] []
theorem brokerref06_SameWill_inj : ∀ y z, brokerref06_SameWill_out y = brokerref06_SameWill_out z → y = z := fun y z h => congrArg (fun o => dBool (avD (nthA 0 (Out.res o)))) h
def brokerref06_SameSubs_out : (Bool) → Out := fun r => .ret [.d (.bool r)] [] []
theorem brokerref06_SameSubs_inj : ∀ y z, brokerref06_SameSubs_out y = brokerref06_SameSubs_out z → y = z := fun y z h => congrArg (fun o => dBool (avD (nthA 0 (Out.res o)))) h
def brokerref01_Same_out : (Bool) → Out := fun r => .ret [.d (.bool r)] [] []
theorem brokerref01_Same_inj : ∀ y z, brokerref01_Same_out y = brokerref01_Same_out z → y = z := fun y z h => congrArg (fun o => dBool (avD (nthA 0 (Out.res o)))) h
def brokerref06_SameNumbers_out : (Bool) → Out := fun r => .ret [.d (.bool r)] [] []
theorem brokerref06_SameNumbers_inj : ∀ y z, brokerref06_SameNumbers_out y = brokerref06_SameNumbers_out z → y = z := fun y z h => congrArg (fun o => dBool (avD (nthA 0 (Out.res o)))) h
def brokerref06_Same_out : (Bool) → Out := fun r => .ret [.d (.bool r)] [] []
theorem brokerref06_Same_inj : ∀ y z, brokerref06_Same_out y = brokerref06_Same_out z → y = z := fun y z h => congrArg (fun o => dBool (avD (nthA 0 (Out.res o)))) h
def brokerref01_lower_out : (Bool) → Out := fun r => .ret [.d (.bool r)] [] []
theorem brokerref01_lower_inj : ∀ y z, brokerref01_lower_out y = brokerref01_lower_out z → y = z := fun y z h => congrArg (fun o => dBool (avD (nthA 0 (Out.res o)))) h
def brokerref01_digit_out : (Bool) → Out := fun r => .ret [.d (.bool r)] [] []
theorem brokerref01_digit_inj : ∀ y z, brokerref01_digit_out y = brokerref01_digit_out z → y = z := fun y z h => congrArg (fun o => dBool (avD (nthA 0 (Out.res o)))) h
def brokerref01_Name_out : (Bool) → Out := fun r => .ret [.d (.bool r)] [] []
theorem brokerref01_Name_inj : ∀ y z, brokerref01_Name_out y = brokerref01_Name_out z → y = z := fun y z h => congrArg (fun o => dBool (avD (nthA 0 (Out.res o)))) h
def brokerref01_Has_out : (Bool) → Out := fun r => .ret [.d (.bool r)] [] []
theorem brokerref01_Has_inj : ∀ y z, brokerref01_Has_out y = brokerref01_Has_out z → y = z := fun y z h => congrArg (fun o => dBool (avD (nthA 0 (Out.res o)))) h
def brokerref01_Levels_out : ((List Str)) → Out := fun r => .ret [.row 0] [] [⟨[.str], 9, 16, (List.map encS r)⟩]
theorem brokerref01_Levels_inj : ∀ y z, brokerref01_Levels_out y = brokerref01_Levels_out z → y = z := fun y z h => map_inj encS_inj (congrArg (fun o => rowX 0 (Out.rws o)) h)
def brokerref01_sized_out : (Bool) → Out := fun r => .ret [.d (.bool r)] [] []
theorem brokerref01_sized_inj : ∀ y z, brokerref01_sized_out y = brokerref01_sized_out z → y = z := fun y z h => congrArg (fun o => dBool (avD (nthA 0 (Out.res o)))) h
def brokerref01_Valid_out : (Bool) → Out := fun r => .ret [.d (.bool r)] [] []
theorem brokerref01_Valid_inj : ∀ y z, brokerref01_Valid_out y = brokerref01_Valid_out z → y = z := fun y z h => congrArg (fun o => dBool (avD (nthA 0 (Out.res o)))) h
def brokerref05_Key_out : (Bool) → Out := fun r => .ret [.d (.bool r)] [] []
theorem brokerref05_Key_inj : ∀ y z, brokerref05_Key_out y = brokerref05_Key_out z → y = z := fun y z h => congrArg (fun o => dBool (avD (nthA 0 (Out.res o)))) h
def brokerref05_Props_out : (Int) → Out := fun r => .ret [.d (.int .i64 r)] [] []
theorem brokerref05_Props_inj : ∀ y z, brokerref05_Props_out y = brokerref05_Props_out z → y = z := fun y z h => congrArg (fun o => dInt (avD (nthA 0 (Out.res o)))) h
def brokerref05_Check_out : (Int) → Out := fun r => .ret [.d (.int .i64 r)] [] []
theorem brokerref05_Check_inj : ∀ y z, brokerref05_Check_out y = brokerref05_Check_out z → y = z := fun y z h => congrArg (fun o => dInt (avD (nthA 0 (Out.res o)))) h
def brokerref06_Will_out : (Int) → Out := fun r => .ret [.d (.int .i64 r)] [] []
theorem brokerref06_Will_inj : ∀ y z, brokerref06_Will_out y = brokerref06_Will_out z → y = z := fun y z h => congrArg (fun o => dInt (avD (nthA 0 (Out.res o)))) h
def brokerref06_connect_out : (Int) → Out := fun r => .ret [.d (.int .i64 r)] [] []
theorem brokerref06_connect_inj : ∀ y z, brokerref06_connect_out y = brokerref06_connect_out z → y = z := fun y z h => congrArg (fun o => dInt (avD (nthA 0 (Out.res o)))) h
def brokerref06_ident_out : (Int) → Out := fun r => .ret [.d (.int .i64 r)] [] []
theorem brokerref06_ident_inj : ∀ y z, brokerref06_ident_out y = brokerref06_ident_out z → y = z := fun y z h => congrArg (fun o => dInt (avD (nthA 0 (Out.res o)))) h
def brokerref06_publish_out : (Int) → Out := fun r => .ret [.d (.int .i64 r)] [] []
theorem brokerref06_publish_inj : ∀ y z, brokerref06_publish_out y = brokerref06_publish_out z → y = z := fun y z h => congrArg (fun o => dInt (avD (nthA 0 (Out.res o)))) h
def brokerref06_Code_out : (Bool) → Out := fun r => .ret [.d (.bool r)] [] []
theorem brokerref06_Code_inj : ∀ y z, brokerref06_Code_out y = brokerref06_Code_out z → y = z := fun y z h => congrArg (fun o => dBool (avD (nthA 0 (Out.res o)))) h
def brokerref06_count_out : (Int) → Out := fun r => .ret [.d (.int .i64 r)] [] []
theorem brokerref06_count_inj : ∀ y z, brokerref06_count_out y = brokerref06_count_out z → y = z := fun y z h => congrArg (fun o => dInt (avD (nthA 0 (Out.res o)))) h
def brokerref01_Begins_out : (Bool) → Out := fun r => .ret [.d (.bool r)] [] []
theorem brokerref01_Begins_inj : ∀ y z, brokerref01_Begins_out y = brokerref01_Begins_out z → y = z := fun y z h => congrArg (fun o => dBool (avD (nthA 0 (Out.res o)))) h
def brokerref01_Filter_out : (Bool) → Out := fun r => .ret [.d (.bool r)] [] []
theorem brokerref01_Filter_inj : ∀ y z, brokerref01_Filter_out y = brokerref01_Filter_out z → y = z := fun y z h => congrArg (fun o => dBool (avD (nthA 0 (Out.res o)))) h
def brokerref01_Shared_out : (Str × Str × Bool) → Out := fun r => .ret [.d (.str r.1), .d (.str r.2.1), .d (.bool r.2.2)] [] []
theorem brokerref01_Shared_inj : ∀ y z, brokerref01_Shared_out y = brokerref01_Shared_out z → y = z := fun y z h => Prod.ext (congrArg (fun o => dStr (avD (nthA 0 (Out.res o)))) h) (Prod.ext (congrArg (fun o => dStr (avD (nthA 1 (Out.res o)))) h) (congrArg (fun o => dBool (avD (nthA 2 (Out.res o)))) h))
def brokerref01_Wanted_out : (Bool) → Out := fun r => .ret [.d (.bool r)] [] []
theorem brokerref01_Wanted_inj : ∀ y z, brokerref01_Wanted_out y = brokerref01_Wanted_out z → y = z := fun y z h => congrArg (fun o => dBool (avD (nthA 0 (Out.res o)))) h
def brokerref06_Sub_out : (Int) → Out := fun r => .ret [.d (.int .i64 r)] [] []
theorem brokerref06_Sub_inj : ∀ y z, brokerref06_Sub_out y = brokerref06_Sub_out z → y = z := fun y z h => congrArg (fun o => dInt (avD (nthA 0 (Out.res o)))) h
def brokerref06_elements_out : (Int) → Out := fun r => .ret [.d (.int .i64 r)] [] []
theorem brokerref06_elements_inj : ∀ y z, brokerref06_elements_out y = brokerref06_elements_out z → y = z := fun y z h => congrArg (fun o => dInt (avD (nthA 0 (Out.res o)))) h
def brokerref06_Check_out : (Int) → Out := fun r => .ret [.d (.int .i64 r)] [] []
theorem brokerref06_Check_inj : ∀ y z, brokerref06_Check_out y = brokerref06_Check_out z → y = z := fun y z h => congrArg (fun o => dInt (avD (nthA 0 (Out.res o)))) h
def brokerref15_answer_out : ((List api_Packet)) → Out := fun r => .ret [.row 0] [] [⟨api_Packet.ks, 33, 416, (List.map api_Packet.enc r)⟩]
theorem brokerref15_answer_inj : ∀ y z, brokerref15_answer_out y = brokerref15_answer_out z → y = z := fun y z h => map_inj api_Packet.inj (congrArg (fun o => rowX 0 (Out.rws o)) h)
def brokerref13_Has_out : (Bool) → Out := fun r => .ret [.d (.bool r)] [] []
theorem brokerref13_Has_inj : ∀ y z, brokerref13_Has_out y = brokerref13_Has_out z → y = z := fun y z h => congrArg (fun o => dBool (avD (nthA 0 (Out.res o)))) h
def brokerref15_Has_out : (Bool) → Out := fun r => .ret [.d (.bool r)] [] []
theorem brokerref15_Has_inj : ∀ y z, brokerref15_Has_out y = brokerref15_Has_out z → y = z := fun y z h => congrArg (fun o => dBool (avD (nthA 0 (Out.res o)))) h
def brokerref15_with_out : ((List Int)) → Out := fun r => .ret [.row 0] [] [⟨[.int .i64], 3, 8, (List.map (encI .i64) r)⟩]
theorem brokerref15_with_inj : ∀ y z, brokerref15_with_out y = brokerref15_with_out z → y = z := fun y z h => map_inj (encI_inj _) (congrArg (fun o => rowX 0 (Out.rws o)) h)
def brokerref15_Accept_out : (api_Inbox × Bool × (List api_Packet) × Int) → Out := fun r => .ret [api_Inbox.av r.1, .d (.bool r.2.1), .row 0, .d (.int .i64 r.2.2.2)] [] [⟨api_Packet.ks, 33, 416, (List.map api_Packet.enc r.2.2.1)⟩]
theorem brokerref15_Accept_inj : ∀ y z, brokerref15_Accept_out y = brokerref15_Accept_out z → y = z := fun y z h => Prod.ext (api_Inbox.inj (congrArg (fun o => List.map avD (cellsOf (nthA 0 (Out.res o)))) h)) (Prod.ext (congrArg (fun o => dBool (avD (nthA 1 (Out.res o)))) h) (Prod.ext (map_inj api_Packet.inj (congrArg (fun o => rowX 0 (Out.rws o)) h)) (congrArg (fun o => dInt (avD (nthA 3 (Out.res o)))) h)))
def brokerref13_Free_out : (api_Pool × Bool) → Out := fun r => .ret [api_Pool.av r.1, .d (.bool r.2)] [] []
theorem brokerref13_Free_inj : ∀ y z, brokerref13_Free_out y = brokerref13_Free_out z → y = z := fun y z h => Prod.ext (api_Pool.inj (congrArg (fun o => List.map avD (cellsOf (nthA 0 (Out.res o)))) h)) (congrArg (fun o => dBool (avD (nthA 1 (Out.res o)))) h)
def brokerref15_Release_out : (api_Inbox × api_Packet × Int) → Out := fun r => .ret [api_Inbox.av r.1, api_Packet.av r.2.1, .d (.int .i64 r.2.2)] [] []
theorem brokerref15_Release_inj : ∀ y z, brokerref15_Release_out y = brokerref15_Release_out z → y = z := fun y z h => Prod.ext (api_Inbox.inj (congrArg (fun o => List.map avD (cellsOf (nthA 0 (Out.res o)))) h)) (Prod.ext (api_Packet.inj (congrArg (fun o => List.map avD (cellsOf (nthA 1 (Out.res o)))) h)) (congrArg (fun o => dInt (avD (nthA 2 (Out.res o)))) h))
def brokerref13_Ints_out : (Bool) → Out := fun r => .ret [.d (.bool r)] [] []
theorem brokerref13_Ints_inj : ∀ y z, brokerref13_Ints_out y = brokerref13_Ints_out z → y = z := fun y z h => congrArg (fun o => dBool (avD (nthA 0 (Out.res o)))) h
def brokerref15_Same_out : (Bool) → Out := fun r => .ret [.d (.bool r)] [] []
theorem brokerref15_Same_inj : ∀ y z, brokerref15_Same_out y = brokerref15_Same_out z → y = z := fun y z h => congrArg (fun o => dBool (avD (nthA 0 (Out.res o)))) h
def brokerlaw15_packets_out : (Bool) → Out := fun r => .ret [.d (.bool r)] [] []
theorem brokerlaw15_packets_inj : ∀ y z, brokerlaw15_packets_out y = brokerlaw15_packets_out z → y = z := fun y z h => congrArg (fun o => dBool (avD (nthA 0 (Out.res o)))) h
def brokerlaw15_step_out : (api_Inbox × Bool × Bool) → Out := fun r => .ret [api_Inbox.av r.1, .d (.bool r.2.1), .d (.bool r.2.2)] [] []
theorem brokerlaw15_step_inj : ∀ y z, brokerlaw15_step_out y = brokerlaw15_step_out z → y = z := fun y z h => Prod.ext (api_Inbox.inj (congrArg (fun o => List.map avD (cellsOf (nthA 0 (Out.res o)))) h)) (Prod.ext (congrArg (fun o => dBool (avD (nthA 1 (Out.res o)))) h) (congrArg (fun o => dBool (avD (nthA 2 (Out.res o)))) h))
def brokerlaw15_InboundOnce_out : (Bool) → Out := fun r => .ret [.d (.bool r)] [] []
theorem brokerlaw15_InboundOnce_inj : ∀ y z, brokerlaw15_InboundOnce_out y = brokerlaw15_InboundOnce_out z → y = z := fun y z h => congrArg (fun o => dBool (avD (nthA 0 (Out.res o)))) h
def good : FuncId → Out → Prop := fun f o => match f with | 18 => ∃ x, brokerref13_Check_out x = o | 7 => ∃ x, brokerref15_Check_out x = o | 39 => ∃ x, packet_is_out x = o | 41 => ∃ x, packet_used_out x = o | 64 => ∃ x, packet_plainOf_out x = o | 65 => ∃ x, message_Same_out x = o | 66 => ∃ x, packet_subs_out x = o | 67 => ∃ x, packet_texts_out x = o | 68 => ∃ x, packet_numbers_out x = o | 40 => ∃ x, packet_Same_out x = o | 69 => ∃ x, topic_Name_out x = o | 95 => ∃ x, topic_sized_out x = o | 84 => ∃ x, topic_Valid_out x = o | 85 => ∃ x, message_is_out x = o | 96 => ∃ x, message_key_out x = o | 86 => ∃ x, message_Props_out x = o | 70 => ∃ x, message_Check_out x = o | 42 => ∃ x, packet_connect_out x = o | 43 => ∃ x, packet_code_out x = o | 45 => ∃ x, packet_ident_out x = o | 44 => ∃ x, packet_publish_out x = o | 71 => ∃ x, packet_counted_out x = o | 100 => ∃ x, stringslite_HasPrefix_out x = o | 102 => ∃ x, stringslite_CutPrefix_out x = o | 97 => ∃ x, strings_CutPrefix_out x = o | 107 => ∃ x, stringslite_IndexByte_out x = o | 105 => ∃ x, stringslite_Index_out x = o | 103 => ∃ x, stringslite_Cut_out x = o | 98 => ∃ x, strings_Cut_out x = o | 113 => ∃ x, strings_Index_out x = o | 112 => ∃ x, strings_Count_out x = o | 106 => ∃ x, strings_genSplit_out x = o | 104 => ∃ x, strings_Split_out x = o | 99 => ∃ x, topic_Levels_out x = o | 88 => ∃ x, topic_Filter_out x = o | 89 => ∃ x, strings_HasPrefix_out x = o | 87 => ∃ x, topic_Shared_out x = o | 72 => ∃ x, packet_wanted_out x = o | 46 => ∃ x, packet_subscribe_out x = o | 47 => ∃ x, packet_codes_out x = o | 48 => ∃ x, packet_unsubscribe_out x = o | 20 => ∃ x, packet_Check_out x = o | 83 => ∃ x, cmp_isNaN_int__out x = o | 62 => ∃ x, cmp_Less_int__out x = o | 63 => ∃ x, slices_isNaN_int__out x = o | 38 => ∃ x, slices_BinarySearch___int_int__out x = o | 19 => ∃ x, inbound_Has_out x = o | 21 => ∃ x, slices_Clone___int_int__out x = o | 49 => ∃ x, slices_Insert___int_int__out x = o | 22 => ∃ x, inbound_insert_int__out x = o | 23 => ∃ x, packet_Answer_out x = o | 9 => ∃ x, inbound_Accept_out x = o | 56 => ∃ x, slices_Delete___int_int__out x = o | 30 => ∃ x, inbound_without_int__out x = o | 16 => ∃ x, inbound_Release_out x = o | 14 => ∃ x, inbound_Check_out x = o | 8 => ∃ x, brokerlaw15_awake_out x = o | 31 => ∃ x, brokerref06_Used_out x = o | 75 => ∃ x, brokerref05_SameProps_out x = o | 50 => ∃ x, brokerref05_Same_out x = o | 51 => ∃ x, brokerref06_SameWill_out x = o | 52 => ∃ x, brokerref06_SameSubs_out x = o | 53 => ∃ x, brokerref01_Same_out x = o | 54 => ∃ x, brokerref06_SameNumbers_out x = o | 27 => ∃ x, brokerref06_Same_out x = o | 76 => ∃ x, brokerref01_lower_out x = o | 77 => ∃ x, brokerref01_digit_out x = o | 57 => ∃ x, brokerref01_Name_out x = o | 92 => ∃ x, brokerref01_Has_out x = o | 94 => ∃ x, brokerref01_Levels_out x = o | 91 => ∃ x, brokerref01_sized_out x = o | 78 => ∃ x, brokerref01_Valid_out x = o | 93 => ∃ x, brokerref05_Key_out x = o | 79 => ∃ x, brokerref05_Props_out x = o | 59 => ∃ x, brokerref05_Check_out x = o | 58 => ∃ x, brokerref06_Will_out x = o | 32 => ∃ x, brokerref06_connect_out x = o | 35 => ∃ x, brokerref06_ident_out x = o | 33 => ∃ x, brokerref06_publish_out x = o | 34 => ∃ x, brokerref06_Code_out x = o | 36 => ∃ x, brokerref06_count_out x = o | 82 => ∃ x, brokerref01_Begins_out x = o | 81 => ∃ x, brokerref01_Filter_out x = o | 80 => ∃ x, brokerref01_Shared_out x = o | 61 => ∃ x, brokerref01_Wanted_out x = o | 60 => ∃ x, brokerref06_Sub_out x = o | 37 => ∃ x, brokerref06_elements_out x = o | 17 => ∃ x, brokerref06_Check_out x = o | 24 => ∃ x, brokerref15_answer_out x = o | 29 => ∃ x, brokerref13_Has_out x = o | 15 => ∃ x, brokerref15_Has_out x = o | 25 => ∃ x, brokerref15_with_out x = o | 10 => ∃ x, brokerref15_Accept_out x = o | 55 => ∃ x, brokerref13_Free_out x = o | 28 => ∃ x, brokerref15_Release_out x = o | 26 => ∃ x, brokerref13_Ints_out x = o | 11 => ∃ x, brokerref15_Same_out x = o | 12 => ∃ x, brokerlaw15_packets_out x = o | 13 => ∃ x, brokerlaw15_step_out x = o | 5 => ∃ x, brokerlaw15_InboundOnce_out x = o | _ => False
end Te
end PX
