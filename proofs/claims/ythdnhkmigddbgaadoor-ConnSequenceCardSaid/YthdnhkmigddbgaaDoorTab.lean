import Derived.Test.YthdnhkmigddbgaaDoorMod
import Derived.Test.YthdnhkmigddbgaaDoorProg
set_option linter.unusedVariables false
set_option linter.unusedSimpArgs false
set_option linter.unusedVariables false
set_option linter.unusedSimpArgs false
noncomputable section
namespace PX
open Go
open Md
namespace Te
def tyL : List (Nat × TI) := [(3, ⟨[.int .i64], false, 8, [], 0⟩),
  (4, ⟨[.bool], false, 1, [], 0⟩),
  (5, ⟨[.int .u8], false, 1, [], 0⟩),
  (9, ⟨[.str], false, 16, [], 0⟩),
  (21, ⟨[.int .i32], false, 4, [], 0⟩),
  (23, ⟨[.int .i64, .int .i64, .str, .str, .int .i64, .int .i64, .bool], true, 72, [(0, 3), (1, 3), (2, 9), (3, 9), (4, 3), (5, 3), (6, 4)], 0⟩),
  (25, ⟨[.int .i64], false, 8, [], 0⟩),
  (30, ⟨[.sl [.str, .str]], false, 24, [], 78⟩),
  (32, ⟨[.str, .str, .int .i64, .bool, .int .i64, .int .i64, .str, .int .i64, .sl [.str, .str]], true, 112, [(0, 9), (1, 9), (2, 3), (3, 4), (4, 3), (5, 3), (6, 9), (7, 3), (8, 30)], 0⟩),
  (34, ⟨[.bool, .int .i64, .str, .str, .int .i64, .bool, .int .i64, .int .i64, .str, .int .i64, .sl [.str, .str]], true, 128, [(0, 4), (1, 3), (2, 32)], 0⟩),
  (35, ⟨[.sl [.str, .int .i64, .bool]], false, 24, [], 65⟩),
  (36, ⟨[.sl [.str]], false, 24, [], 9⟩),
  (37, ⟨[.sl [.int .i64]], false, 24, [], 3⟩),
  (39, ⟨[.int .i64, .int .i64, .bool, .str, .str, .int .i64, .bool, .int .i64, .int .i64, .str, .int .i64, .sl [.str, .str], .str, .str, .bool, .int .i64, .int .i64, .int .i64, .bool, .int .i64, .str, .str, .int .i64, .bool, .int .i64, .int .i64, .str, .int .i64, .sl [.str, .str], .bool, .int .i64, .sl [.str, .int .i64, .bool], .sl [.str], .sl [.int .i64]], true, 416, [(0, 3), (1, 3), (2, 4), (3, 32), (12, 9), (13, 9), (14, 4), (15, 3), (16, 3), (17, 3), (18, 34), (29, 4), (30, 3), (31, 35), (32, 36), (33, 37)], 0⟩),
  (41, ⟨[.sl [.int .i64, .int .i64, .bool, .str, .str, .int .i64, .bool, .int .i64, .int .i64, .str, .int .i64, .sl [.str, .str], .str, .str, .bool, .int .i64, .int .i64, .int .i64, .bool, .int .i64, .str, .str, .int .i64, .bool, .int .i64, .int .i64, .str, .int .i64, .sl [.str, .str], .bool, .int .i64, .sl [.str, .int .i64, .bool], .sl [.str], .sl [.int .i64]]], false, 24, [], 39⟩),
  (49, ⟨[.int .i64, .int .i64, .str, .str, .int .i64, .int .i64, .bool], true, 72, [(0, 23)], 0⟩),
  (65, ⟨[.str, .int .i64, .bool], true, 32, [(0, 9), (1, 3), (2, 4)], 0⟩),
  (67, ⟨[.int .i64, .int .i64, .int .i64, .int .i64, .int .i64, .int .i64, .int .i64, .bool, .bool, .bool, .bool, .str, .str], true, 96, [(0, 3), (1, 3), (2, 3), (3, 3), (4, 3), (5, 3), (6, 3), (7, 4), (8, 4), (9, 4), (10, 4), (11, 9), (12, 9)], 0⟩),
  (78, ⟨[.str, .str], true, 32, [(0, 9), (1, 9)], 0⟩),
  (90, ⟨[.int .u64], false, 8, [], 0⟩)]
def fnL : List (Nat × Func) := [(12, Go.Proofs.Tryd.f12), (17, Go.Proofs.Tryd.f17), (39, Go.Proofs.Tryd.f39), (41, Go.Proofs.Tryd.f41), (59, Go.Proofs.Tryd.f59), (60, Go.Proofs.Tryd.f60), (61, Go.Proofs.Tryd.f61), (62, Go.Proofs.Tryd.f62), (63, Go.Proofs.Tryd.f63), (40, Go.Proofs.Tryd.f40), (36, Go.Proofs.Tryd.f36), (83, Go.Proofs.Tryd.f83), (73, Go.Proofs.Tryd.f73), (74, Go.Proofs.Tryd.f74), (84, Go.Proofs.Tryd.f84), (75, Go.Proofs.Tryd.f75), (64, Go.Proofs.Tryd.f64), (42, Go.Proofs.Tryd.f42), (43, Go.Proofs.Tryd.f43), (45, Go.Proofs.Tryd.f45), (44, Go.Proofs.Tryd.f44), (65, Go.Proofs.Tryd.f65), (88, Go.Proofs.Tryd.f88), (89, Go.Proofs.Tryd.f89), (85, Go.Proofs.Tryd.f85), (94, Go.Proofs.Tryd.f94), (92, Go.Proofs.Tryd.f92), (90, Go.Proofs.Tryd.f90), (86, Go.Proofs.Tryd.f86), (100, Go.Proofs.Tryd.f100), (99, Go.Proofs.Tryd.f99), (93, Go.Proofs.Tryd.f93), (91, Go.Proofs.Tryd.f91), (87, Go.Proofs.Tryd.f87), (77, Go.Proofs.Tryd.f77), (78, Go.Proofs.Tryd.f78), (76, Go.Proofs.Tryd.f76), (66, Go.Proofs.Tryd.f66), (46, Go.Proofs.Tryd.f46), (47, Go.Proofs.Tryd.f47), (48, Go.Proofs.Tryd.f48), (25, Go.Proofs.Tryd.f25), (49, Go.Proofs.Tryd.f49), (26, Go.Proofs.Tryd.f26), (21, Go.Proofs.Tryd.f21), (15, Go.Proofs.Tryd.f15), (22, Go.Proofs.Tryd.f22), (23, Go.Proofs.Tryd.f23), (8, Go.Proofs.Tryd.f8), (10, Go.Proofs.Tryd.f10), (7, Go.Proofs.Tryd.f7), (37, Go.Proofs.Tryd.f37), (38, Go.Proofs.Tryd.f38), (24, Go.Proofs.Tryd.f24), (9, Go.Proofs.Tryd.f9), (11, Go.Proofs.Tryd.f11), (13, Go.Proofs.Tryd.f13), (3, Go.Proofs.Tryd.f3), (14, Go.Proofs.Tryd.f14), (28, Go.Proofs.Tryd.f28), (67, Go.Proofs.Tryd.f67), (50, Go.Proofs.Tryd.f50), (51, Go.Proofs.Tryd.f51), (52, Go.Proofs.Tryd.f52), (53, Go.Proofs.Tryd.f53), (54, Go.Proofs.Tryd.f54), (27, Go.Proofs.Tryd.f27), (80, Go.Proofs.Tryd.f80), (82, Go.Proofs.Tryd.f82), (79, Go.Proofs.Tryd.f79), (68, Go.Proofs.Tryd.f68), (81, Go.Proofs.Tryd.f81), (69, Go.Proofs.Tryd.f69), (56, Go.Proofs.Tryd.f56), (55, Go.Proofs.Tryd.f55), (29, Go.Proofs.Tryd.f29), (32, Go.Proofs.Tryd.f32), (30, Go.Proofs.Tryd.f30), (31, Go.Proofs.Tryd.f31), (33, Go.Proofs.Tryd.f33), (72, Go.Proofs.Tryd.f72), (71, Go.Proofs.Tryd.f71), (70, Go.Proofs.Tryd.f70), (58, Go.Proofs.Tryd.f58), (57, Go.Proofs.Tryd.f57), (34, Go.Proofs.Tryd.f34), (19, Go.Proofs.Tryd.f19), (35, Go.Proofs.Tryd.f35), (20, Go.Proofs.Tryd.f20), (16, Go.Proofs.Tryd.f16), (4, Go.Proofs.Tryd.f4), (18, Go.Proofs.Tryd.f18), (5, Go.Proofs.Tryd.f5), (6, Go.Proofs.Tryd.f6)]
def tmL : List (Nat × (List Sh × List (TypeId × List Sh))) := [(12, ([api_Conn.sh], [])),
  (17, ([.bool], [])),
  (39, ([.bool], [])),
  (41, ([api_Packet.sh], [])),
  (59, ([packet_plain.sh], [])),
  (60, ([.bool], [])),
  (61, ([.bool], [])),
  (62, ([.bool], [])),
  (63, ([.bool], [])),
  (40, ([.bool], [])),
  (36, ([.bool], [])),
  (83, ([.bool], [])),
  (73, ([.bool], [])),
  (74, ([.bool], [])),
  (84, ([.bool], [])),
  (75, ([.int .i64], [])),
  (64, ([.int .i64], [])),
  (42, ([.int .i64], [])),
  (43, ([.bool], [])),
  (45, ([.int .i64], [])),
  (44, ([.int .i64], [])),
  (65, ([.int .i64], [])),
  (88, ([.bool], [])),
  (89, ([.str, .bool], [])),
  (85, ([.str, .bool], [])),
  (94, ([.int .i64], [])),
  (92, ([.int .i64], [])),
  (90, ([.str, .str, .bool], [])),
  (86, ([.str, .str, .bool], [])),
  (100, ([.int .i64], [])),
  (99, ([.int .i64], [])),
  (93, ([.sl [.str]], [])),
  (91, ([.sl [.str]], [])),
  (87, ([.sl [.str]], [])),
  (77, ([.bool], [])),
  (78, ([.bool], [])),
  (76, ([.str, .str, .bool], [])),
  (66, ([.bool, .bool], [])),
  (46, ([.int .i64], [])),
  (47, ([.int .i64], [])),
  (48, ([.int .i64], [])),
  (25, ([.int .i64], [])),
  (49, ([.bool], [])),
  (26, ([.bool], [])),
  (21, ([.bool], [])),
  (15, ([api_Conn.sh, .int .i64], [])),
  (22, ([.bool], [])),
  (23, ([.bool], [])),
  (8, ([.int .i64], [])),
  (10, ([api_Conn.sh], [])),
  (7, ([.bool], [])),
  (37, ([.bool], [])),
  (38, ([.bool], [])),
  (24, ([.bool], [])),
  (9, ([.int .i64], [])),
  (11, ([api_Conn.sh], [])),
  (13, ([api_Conn.sh], [])),
  (3, ([.bool], [])),
  (14, ([.bool], [])),
  (28, ([api_Packet.sh], [])),
  (67, ([.bool], [])),
  (50, ([.bool], [])),
  (51, ([.bool], [])),
  (52, ([.bool], [])),
  (53, ([.bool], [])),
  (54, ([.bool], [])),
  (27, ([.bool], [])),
  (80, ([.bool], [])),
  (82, ([.row 0 [.str] 9 16], [])),
  (79, ([.bool], [])),
  (68, ([.bool], [])),
  (81, ([.bool], [])),
  (69, ([.int .i64], [])),
  (56, ([.int .i64], [])),
  (55, ([.int .i64], [])),
  (29, ([.int .i64], [])),
  (32, ([.int .i64], [])),
  (30, ([.int .i64], [])),
  (31, ([.bool], [])),
  (33, ([.int .i64], [])),
  (72, ([.bool], [])),
  (71, ([.bool], [])),
  (70, ([.str, .str, .bool], [])),
  (58, ([.bool], [])),
  (57, ([.int .i64], [])),
  (34, ([.int .i64], [])),
  (19, ([.int .i64], [])),
  (35, ([.bool], [])),
  (20, ([.bool], [])),
  (16, ([api_Conn.sh, .int .i64], [])),
  (4, ([.bool], [])),
  (18, ([.bool], [])),
  (5, ([.bool], [])),
  (6, ([.bool], []))]
def mvL : List (Nat × Bool) := []
def hlL : List (Nat × List (Nat × Hint)) := [(60, [(4, ⟨[(3, .ptr 1000000000 0), (71, .sl api_Prop.ks), (72, .int .i64), (73, .int .i64)], [(32, api_Message.shs)], []⟩)]),
  (61, [(4, ⟨[(1, .sl api_Sub.ks), (12, .sl api_Sub.ks), (13, .int .i64), (14, .int .i64)], [], []⟩)]),
  (62, [(4, ⟨[(1, .sl [.str]), (12, .sl [.str]), (13, .int .i64), (14, .int .i64)], [], []⟩)]),
  (63, [(4, ⟨[(1, .sl [.int .i64]), (12, .sl [.int .i64]), (13, .int .i64), (14, .int .i64)], [], []⟩)]),
  (36, [(4, ⟨[(15, .it 4000)], [], []⟩)]),
  (83, [(5, ⟨[(3, .int .i64), (15, .it 4000)], [], []⟩)]),
  (73, [(4, ⟨[(9, .it 4000)], [], []⟩)]),
  (84, [(4, ⟨[(0, .str), (3, .int .i64)], [], []⟩)]),
  (75, [(4, ⟨[(0, .sl api_Prop.ks), (8, .sl api_Prop.ks), (9, .int .i64), (10, .int .i64)], [], []⟩)]),
  (99, [(6, ⟨[(0, .str), (1, .str), (5, .int .i64)], [], []⟩)]),
  (93, [(11, ⟨[(0, .str), (1, .str), (2, .int .i64), (3, .int .i64), (9, .row 3009 [.str] 9 16), (10, .int .i64)], [], []⟩)]),
  (77, [(6, ⟨[(3, .sl [.str]), (4, .bool), (15, .sl [.str]), (16, .int .i64), (17, .int .i64)], [], []⟩), (9, ⟨[(3, .sl [.str]), (4, .bool), (5, .int .i64), (6, .str), (15, .sl [.str]), (16, .int .i64), (17, .int .i64), (23, .it 4000)], [], []⟩)]),
  (46, [(5, ⟨[(18, .sl api_Sub.ks), (19, .int .i64), (20, .int .i64)], [], []⟩)]),
  (47, [(5, ⟨[(16, .sl [.int .i64]), (17, .int .i64), (18, .int .i64)], [], []⟩)]),
  (48, [(5, ⟨[(18, .sl [.str]), (19, .int .i64), (20, .int .i64)], [], []⟩)]),
  (24, [(4, ⟨[(0, .str), (3, .int .i64)], [], []⟩)]),
  (14, [(2, ⟨[(0, .sl api_Packet.ks), (3, .int .i64)], [], []⟩)]),
  (67, [(4, ⟨[(0, .sl api_Prop.ks), (1, .sl api_Prop.ks), (5, .int .i64)], [], []⟩)]),
  (52, [(4, ⟨[(0, .sl api_Sub.ks), (1, .sl api_Sub.ks), (5, .int .i64)], [], []⟩)]),
  (53, [(4, ⟨[(0, .sl [.str]), (1, .sl [.str]), (5, .int .i64)], [], []⟩)]),
  (54, [(4, ⟨[(0, .sl [.int .i64]), (1, .sl [.int .i64]), (5, .int .i64)], [], []⟩)]),
  (80, [(2, ⟨[(0, .str), (1, .int .u8), (5, .int .i64)], [], []⟩)]),
  (82, [(4, ⟨[(0, .str), (3, .row 3003 [.str] 9 16), (4, .int .i64), (5, .int .i64)], [], []⟩)]),
  (81, [(4, ⟨[(0, .str), (3, .int .i64)], [], []⟩)]),
  (69, [(4, ⟨[(0, .sl api_Prop.ks), (3, .int .i64)], [], []⟩)]),
  (71, [(5, ⟨[(3, .row 3003 [.str] 9 16), (4, .int .i64)], [], []⟩)]),
  (70, [(5, ⟨[(5, .str), (6, .int .i64)], [], []⟩)]),
  (34, [(2, ⟨[(1, .ptr 1000000000 0), (3, .int .i64)], [(39, api_Packet.shs)], []⟩), (8, ⟨[(1, .ptr 1000000000 0), (5, .int .i64)], [(39, api_Packet.shs)], []⟩), (13, ⟨[(1, .ptr 1000000000 0), (6, .int .i64)], [(39, api_Packet.shs)], []⟩)]),
  (6, [(7, ⟨[(0, .sl api_Packet.ks), (3, .ptr 1000000000 0), (4, .int .i64), (5, .bool), (6, .int .i64)], [(23, api_Conn.shs)], []⟩)])]
def hrL : List (Nat × List (Nat × Hint)) := [(60, [(3, ⟨[(2, .ptr 1000000000 0), (3, .ptr 1000000001 0)], [(32, api_Message.shs), (32, api_Message.shs)], []⟩)]),
  (36, [(3, ⟨[(0, .str)], [], []⟩), (7, ⟨[(3, .int .i64), (4, .int .i32), (5, .bool), (15, .it 4000)], [], []⟩)]),
  (83, [(3, ⟨[(0, .str)], [], []⟩)]),
  (84, [(3, ⟨[(0, .str)], [], []⟩)]),
  (93, [(7, ⟨[(0, .str), (1, .str), (2, .int .i64), (3, .int .i64)], [], []⟩), (17, ⟨[(0, .str), (9, .row 3009 [.str] 9 16), (10, .int .i64)], [], []⟩)]),
  (15, [(9, ⟨[(2, .int .i64), (4, .ptr 1000000000 0), (6, .ptr 1000000001 0), (8, .ptr 1000000002 0)], [(39, api_Packet.shs), (23, api_Conn.shs), (49, conn_end.shs)], []⟩)]),
  (7, [(4, ⟨[(1, .ptr 1000000000 0)], [(23, api_Conn.shs)], []⟩), (8, ⟨[(2, .ptr 1000000000 0), (3, .ptr 1000000001 0)], [(39, api_Packet.shs), (23, api_Conn.shs)], []⟩)]),
  (24, [(3, ⟨[(0, .str)], [], []⟩)]),
  (9, [(3, ⟨[(1, .ptr 1000000000 0)], [(23, api_Conn.shs)], []⟩), (5, ⟨[(1, .ptr 1000000000 0)], [(23, api_Conn.shs)], []⟩), (7, ⟨[(1, .ptr 1000000000 0)], [(23, api_Conn.shs)], []⟩), (9, ⟨[(1, .ptr 1000000000 0)], [(23, api_Conn.shs)], []⟩)]),
  (28, [(4, ⟨[(1, .ptr 1000000000 0), (2, .ptr 1000000001 0), (3, .ptr 1000000002 0)], [(39, api_Packet.shs), (39, api_Packet.shs), (39, api_Packet.shs)], []⟩), (12, ⟨[(1, .ptr 1000000000 0), (2, .ptr 1000000001 0), (3, .ptr 1000000002 0)], [(39, api_Packet.shs), (39, api_Packet.shs), (39, api_Packet.shs)], []⟩), (14, ⟨[(1, .ptr 1000000000 0), (2, .ptr 1000000001 0), (3, .ptr 1000000002 0)], [(39, api_Packet.shs), (39, api_Packet.shs), (39, api_Packet.shs)], []⟩), (16, ⟨[(1, .ptr 1000000000 0), (2, .ptr 1000000001 0), (3, .ptr 1000000002 0)], [(39, api_Packet.shs), (39, api_Packet.shs), (39, api_Packet.shs)], []⟩), (19, ⟨[(1, .ptr 1000000000 0), (2, .ptr 1000000001 0), (3, .ptr 1000000002 0)], [(39, api_Packet.shs), (39, api_Packet.shs), (39, api_Packet.shs)], []⟩), (21, ⟨[(1, .ptr 1000000000 0), (2, .ptr 1000000001 0), (3, .ptr 1000000002 0)], [(39, api_Packet.shs), (39, api_Packet.shs), (39, api_Packet.shs)], []⟩), (23, ⟨[(1, .ptr 1000000000 0), (2, .ptr 1000000001 0), (3, .ptr 1000000002 0)], [(39, api_Packet.shs), (39, api_Packet.shs), (39, api_Packet.shs)], []⟩)]),
  (27, [(3, ⟨[(2, .ptr 1000000000 0), (3, .ptr 1000000001 0)], [(39, api_Packet.shs), (39, api_Packet.shs)], []⟩), (5, ⟨[(2, .ptr 1000000000 0), (3, .ptr 1000000001 0)], [(39, api_Packet.shs), (39, api_Packet.shs)], []⟩)]),
  (81, [(3, ⟨[(0, .str)], [], []⟩)]),
  (56, [(7, ⟨[(1, .ptr 1000000000 0)], [(32, api_Message.shs)], []⟩), (9, ⟨[(1, .ptr 1000000000 0)], [(32, api_Message.shs)], []⟩), (11, ⟨[(1, .ptr 1000000000 0)], [(32, api_Message.shs)], []⟩)]),
  (29, [(3, ⟨[(1, .ptr 1000000000 0)], [(39, api_Packet.shs)], []⟩)]),
  (71, [(9, ⟨[(3, .row 3003 [.str] 9 16), (4, .int .i64)], [], []⟩)]),
  (70, [(7, ⟨[(5, .str), (6, .int .i64)], [], []⟩), (9, ⟨[(5, .str), (6, .int .i64)], [], []⟩)]),
  (57, [(5, ⟨[(1, .ptr 1000000000 0)], [(65, api_Sub.shs)], []⟩)]),
  (19, [(3, ⟨[(1, .ptr 1000000000 0)], [(39, api_Packet.shs)], []⟩), (15, ⟨[(1, .ptr 1000000000 0)], [(39, api_Packet.shs)], []⟩), (17, ⟨[(1, .ptr 1000000000 0)], [(39, api_Packet.shs)], []⟩), (20, ⟨[(1, .ptr 1000000000 0)], [(39, api_Packet.shs)], []⟩)]),
  (16, [(8, ⟨[(2, .int .i64), (3, .ptr 1000000000 0), (4, .ptr 1000000001 0), (6, .ptr 1000000002 0)], [(23, api_Conn.shs), (39, api_Packet.shs), (23, api_Conn.shs)], []⟩), (15, ⟨[(3, .ptr 1000000000 0), (4, .ptr 1000000001 0), (6, .ptr 1000000002 0)], [(23, api_Conn.shs), (39, api_Packet.shs), (23, api_Conn.shs)], []⟩)]),
  (5, [(3, ⟨[(1, .int .i64), (2, .ptr 1000000000 0)], [(23, api_Conn.shs)], []⟩)]),
  (6, [(13, ⟨[(0, .sl api_Packet.ks), (3, .ptr 1000000000 0), (4, .int .i64), (6, .int .i64), (7, .ptr 1000000001 0), (34, .int .i64), (35, .bool), (36, .sl api_Packet.ks), (37, .int .i64), (40, .int .i64), (41, .bool), (42, .bool), (45, .sl api_Packet.ks), (46, .int .i64), (48, api_Packet.sh), (49, .int .i64), (50, .bool), (53, .sl api_Packet.ks), (54, .int .i64), (57, .int .i64), (58, .bool), (59, .bool), (62, api_Conn.sh), (63, .int .i64), (64, .bool)], [(23, api_Conn.shs), (23, api_Conn.shs)], []⟩)])]
def eqL : List (Nat × List CK) := [(23, [.int .i64, .int .i64, .str, .str, .int .i64, .int .i64, .bool]), (65, [.str, .int .i64, .bool]), (67, [.int .i64, .int .i64, .int .i64, .int .i64, .int .i64, .int .i64, .int .i64, .bool, .bool, .bool, .bool, .str, .str]), (78, [.str, .str])]
def prL : List (Nat × Prim) := [(101, .indexByte), (105, .countByte)]
def SE : Env := { fn := assoc fnL, ty := assoc tyL, tm := assoc tmL, mv := fun f => match assoc mvL f with | some b => b | none => false, eqt := assoc eqL, pv := fun _ => none, hl := fun f r => match assoc hlL f with | some l => assoc l r | none => none, hr := fun f r => match assoc hrL f with | some l => assoc l r | none => none, prim := assoc prL }
def conn_New_out : (api_Conn) → Out := fun r => .ret [api_Conn.av r] [] []
theorem conn_New_inj : ∀ y z, conn_New_out y = conn_New_out z → y = z := fun y z h => api_Conn.inj (congrArg (fun o => List.map avD (cellsOf (nthA 0 (Out.res o)))) h)
def conn_Expired_out : (Bool) → Out := fun r => .ret [.d (.bool r)] [] []
theorem conn_Expired_inj : ∀ y z, conn_Expired_out y = conn_Expired_out z → y = z := fun y z h => congrArg (fun o => dBool (avD (nthA 0 (Out.res o)))) h
def packet_is_out : (Bool) → Out := fun r => .ret [.d (.bool r)] [] []
theorem packet_is_inj : ∀ y z, packet_is_out y = packet_is_out z → y = z := fun y z h => congrArg (fun o => dBool (avD (nthA 0 (Out.res o)))) h
def packet_used_out : (api_Packet) → Out := fun r => .ret [api_Packet.av r] [] []
theorem packet_used_inj : ∀ y z, packet_used_out y = packet_used_out z → y = z := fun y z h => api_Packet.inj (congrArg (fun o => List.map avD (cellsOf (nthA 0 (Out.res o)))) h)
def packet_plainOf_out : (packet_plain) → Out := fun r => .ret [packet_plain.av r] [] []
theorem packet_plainOf_inj : ∀ y z, packet_plainOf_out y = packet_plainOf_out z → y = z := fun y z h => packet_plain.inj (congrArg (fun o => List.map avD (cellsOf (nthA 0 (Out.res o)))) h)
def message_Same_out : (Bool) → Out := fun r => .ret [.d (.bool r)] [] []
theorem message_Same_inj : ∀ y z, message_Same_out y = message_Same_out z → y = z := fun y z h => congrArg (fun o => dBool (avD (nthA 0 (Out.res o)))) h
def packet_subs_out : (Bool) → Out := fun r => .ret [.d (.bool r)] [] []
theorem packet_subs_inj : ∀ y z, packet_subs_out y = packet_subs_out z → y = z := fun y z h => congrArg (fun o => dBool (avD (nthA 0 (Out.res o)))) h
def packet_texts_out : (Bool) → Out := fun r => .ret [.d (.bool r)] [] []
theorem packet_texts_inj : ∀ y z, packet_texts_out y = packet_texts_out z → y = z := fun y z h => congrArg (fun o => dBool (avD (nthA 0 (Out.res o)))) h
def packet_numbers_out : (Bool) → Out := fun r => .ret [.d (.bool r)] [] []
theorem packet_numbers_inj : ∀ y z, packet_numbers_out y = packet_numbers_out z → y = z := fun y z h => congrArg (fun o => dBool (avD (nthA 0 (Out.res o)))) h
def packet_Same_out : (Bool) → Out := fun r => .ret [.d (.bool r)] [] []
theorem packet_Same_inj : ∀ y z, packet_Same_out y = packet_Same_out z → y = z := fun y z h => congrArg (fun o => dBool (avD (nthA 0 (Out.res o)))) h
def topic_Name_out : (Bool) → Out := fun r => .ret [.d (.bool r)] [] []
theorem topic_Name_inj : ∀ y z, topic_Name_out y = topic_Name_out z → y = z := fun y z h => congrArg (fun o => dBool (avD (nthA 0 (Out.res o)))) h
def topic_sized_out : (Bool) → Out := fun r => .ret [.d (.bool r)] [] []
theorem topic_sized_inj : ∀ y z, topic_sized_out y = topic_sized_out z → y = z := fun y z h => congrArg (fun o => dBool (avD (nthA 0 (Out.res o)))) h
def topic_Valid_out : (Bool) → Out := fun r => .ret [.d (.bool r)] [] []
theorem topic_Valid_inj : ∀ y z, topic_Valid_out y = topic_Valid_out z → y = z := fun y z h => congrArg (fun o => dBool (avD (nthA 0 (Out.res o)))) h
def message_is_out : (Bool) → Out := fun r => .ret [.d (.bool r)] [] []
theorem message_is_inj : ∀ y z, message_is_out y = message_is_out z → y = z := fun y z h => congrArg (fun o => dBool (avD (nthA 0 (Out.res o)))) h
def message_key_out : (Bool) → Out := fun r => .ret [.d (.bool r)] [] []
theorem message_key_inj : ∀ y z, message_key_out y = message_key_out z → y = z := fun y z h => congrArg (fun o => dBool (avD (nthA 0 (Out.res o)))) h
def message_Props_out : (Int) → Out := fun r => .ret [.d (.int .i64 r)] [] []
theorem message_Props_inj : ∀ y z, message_Props_out y = message_Props_out z → y = z := fun y z h => congrArg (fun o => dInt (avD (nthA 0 (Out.res o)))) h
def message_Check_out : (Int) → Out := fun r => .ret [.d (.int .i64 r)] [] []
theorem message_Check_inj : ∀ y z, message_Check_out y = message_Check_out z → y = z := fun y z h => congrArg (fun o => dInt (avD (nthA 0 (Out.res o)))) h
def packet_connect_out : (Int) → Out := fun r => .ret [.d (.int .i64 r)] [] []
theorem packet_connect_inj : ∀ y z, packet_connect_out y = packet_connect_out z → y = z := fun y z h => congrArg (fun o => dInt (avD (nthA 0 (Out.res o)))) h
def packet_code_out : (Bool) → Out := fun r => .ret [.d (.bool r)] [] []
theorem packet_code_inj : ∀ y z, packet_code_out y = packet_code_out z → y = z := fun y z h => congrArg (fun o => dBool (avD (nthA 0 (Out.res o)))) h
def packet_ident_out : (Int) → Out := fun r => .ret [.d (.int .i64 r)] [] []
theorem packet_ident_inj : ∀ y z, packet_ident_out y = packet_ident_out z → y = z := fun y z h => congrArg (fun o => dInt (avD (nthA 0 (Out.res o)))) h
def packet_publish_out : (Int) → Out := fun r => .ret [.d (.int .i64 r)] [] []
theorem packet_publish_inj : ∀ y z, packet_publish_out y = packet_publish_out z → y = z := fun y z h => congrArg (fun o => dInt (avD (nthA 0 (Out.res o)))) h
def packet_counted_out : (Int) → Out := fun r => .ret [.d (.int .i64 r)] [] []
theorem packet_counted_inj : ∀ y z, packet_counted_out y = packet_counted_out z → y = z := fun y z h => congrArg (fun o => dInt (avD (nthA 0 (Out.res o)))) h
def stringslite_HasPrefix_out : (Bool) → Out := fun r => .ret [.d (.bool r)] [] []
theorem stringslite_HasPrefix_inj : ∀ y z, stringslite_HasPrefix_out y = stringslite_HasPrefix_out z → y = z := fun y z h => congrArg (fun o => dBool (avD (nthA 0 (Out.res o)))) h
def stringslite_CutPrefix_out : (Str × Bool) → Out := fun r => .ret [.d (.str r.1), .d (.bool r.2)] [] []
theorem stringslite_CutPrefix_inj : ∀ y z, stringslite_CutPrefix_out y = stringslite_CutPrefix_out z → y = z := fun y z h => Prod.ext (congrArg (fun o => dStr (avD (nthA 0 (Out.res o)))) h) (congrArg (fun o => dBool (avD (nthA 1 (Out.res o)))) h)
def strings_CutPrefix_out : (Str × Bool) → Out := fun r => .ret [.d (.str r.1), .d (.bool r.2)] [] []
theorem strings_CutPrefix_inj : ∀ y z, strings_CutPrefix_out y = strings_CutPrefix_out z → y = z := fun y z h => Prod.ext (congrArg (fun o => dStr (avD (nthA 0 (Out.res o)))) h) (congrArg (fun o => dBool (avD (nthA 1 (Out.res o)))) h)
def stringslite_IndexByte_out : (Int) → Out := fun r => .ret [.d (.int .i64 r)] [] []
theorem stringslite_IndexByte_inj : ∀ y z, stringslite_IndexByte_out y = stringslite_IndexByte_out z → y = z := fun y z h => congrArg (fun o => dInt (avD (nthA 0 (Out.res o)))) h
def stringslite_Index_out : (Int) → Out := fun r => .ret [.d (.int .i64 r)] [] []
theorem stringslite_Index_inj : ∀ y z, stringslite_Index_out y = stringslite_Index_out z → y = z := fun y z h => congrArg (fun o => dInt (avD (nthA 0 (Out.res o)))) h
def stringslite_Cut_out : (Str × Str × Bool) → Out := fun r => .ret [.d (.str r.1), .d (.str r.2.1), .d (.bool r.2.2)] [] []
theorem stringslite_Cut_inj : ∀ y z, stringslite_Cut_out y = stringslite_Cut_out z → y = z := fun y z h => Prod.ext (congrArg (fun o => dStr (avD (nthA 0 (Out.res o)))) h) (Prod.ext (congrArg (fun o => dStr (avD (nthA 1 (Out.res o)))) h) (congrArg (fun o => dBool (avD (nthA 2 (Out.res o)))) h))
def strings_Cut_out : (Str × Str × Bool) → Out := fun r => .ret [.d (.str r.1), .d (.str r.2.1), .d (.bool r.2.2)] [] []
theorem strings_Cut_inj : ∀ y z, strings_Cut_out y = strings_Cut_out z → y = z := fun y z h => Prod.ext (congrArg (fun o => dStr (avD (nthA 0 (Out.res o)))) h) (Prod.ext (congrArg (fun o => dStr (avD (nthA 1 (Out.res o)))) h) (congrArg (fun o => dBool (avD (nthA 2 (Out.res o)))) h))
def strings_Index_out : (Int) → Out := fun r => .ret [.d (.int .i64 r)] [] []
theorem strings_Index_inj : ∀ y z, strings_Index_out y = strings_Index_out z → y = z := fun y z h => congrArg (fun o => dInt (avD (nthA 0 (Out.res o)))) h
def strings_Count_out : (Int) → Out := fun r => .ret [.d (.int .i64 r)] [] []
theorem strings_Count_inj : ∀ y z, strings_Count_out y = strings_Count_out z → y = z := fun y z h => congrArg (fun o => dInt (avD (nthA 0 (Out.res o)))) h
def strings_genSplit_out : ((List Str)) → Out := fun r => .ret [.d (.sl [.str] (List.map encS r))] [] []
theorem strings_genSplit_inj : ∀ y z, strings_genSplit_out y = strings_genSplit_out z → y = z := fun y z h => map_inj encS_inj (congrArg (fun o => dSl (avD (nthA 0 (Out.res o)))) h)
def strings_Split_out : ((List Str)) → Out := fun r => .ret [.d (.sl [.str] (List.map encS r))] [] []
theorem strings_Split_inj : ∀ y z, strings_Split_out y = strings_Split_out z → y = z := fun y z h => map_inj encS_inj (congrArg (fun o => dSl (avD (nthA 0 (Out.res o)))) h)
def topic_Levels_out : ((List Str)) → Out := fun r => .ret [.d (.sl [.str] (List.map encS r))] [] []
theorem topic_Levels_inj : ∀ y z, topic_Levels_out y = topic_Levels_out z → y = z := fun y z h => map_inj encS_inj (congrArg (fun o => dSl (avD (nthA 0 (Out.res o)))) h)
def topic_Filter_out : (Bool) → Out := fun r => .ret [.d (.bool r)] [] []
theorem topic_Filter_inj : ∀ y z, topic_Filter_out y = topic_Filter_out z → y = z := fun y z h => congrArg (fun o => dBool (avD (nthA 0 (Out.res o)))) h
def strings_HasPrefix_out : (Bool) → Out := fun r => .ret [.d (.bool r)] [] []
theorem strings_HasPrefix_inj : ∀ y z, strings_HasPrefix_out y = strings_HasPrefix_out z → y = z := fun y z h => congrArg (fun o => dBool (avD (nthA 0 (Out.res o)))) h
def topic_Shared_out : (Str × Str × Bool) → Out := fun r => .ret [.d (.str r.1), .d (.str r.2.1), .d (.bool r.2.2)] [] []
theorem topic_Shared_inj : ∀ y z, topic_Shared_out y = topic_Shared_out z → y = z := fun y z h => Prod.ext (congrArg (fun o => dStr (avD (nthA 0 (Out.res o)))) h) (Prod.ext (congrArg (fun o => dStr (avD (nthA 1 (Out.res o)))) h) (congrArg (fun o => dBool (avD (nthA 2 (Out.res o)))) h))
def packet_wanted_out : (Bool × Bool) → Out := fun r => .ret [.d (.bool r.1), .d (.bool r.2)] [] []
theorem packet_wanted_inj : ∀ y z, packet_wanted_out y = packet_wanted_out z → y = z := fun y z h => Prod.ext (congrArg (fun o => dBool (avD (nthA 0 (Out.res o)))) h) (congrArg (fun o => dBool (avD (nthA 1 (Out.res o)))) h)
def packet_subscribe_out : (Int) → Out := fun r => .ret [.d (.int .i64 r)] [] []
theorem packet_subscribe_inj : ∀ y z, packet_subscribe_out y = packet_subscribe_out z → y = z := fun y z h => congrArg (fun o => dInt (avD (nthA 0 (Out.res o)))) h
def packet_codes_out : (Int) → Out := fun r => .ret [.d (.int .i64 r)] [] []
theorem packet_codes_inj : ∀ y z, packet_codes_out y = packet_codes_out z → y = z := fun y z h => congrArg (fun o => dInt (avD (nthA 0 (Out.res o)))) h
def packet_unsubscribe_out : (Int) → Out := fun r => .ret [.d (.int .i64 r)] [] []
theorem packet_unsubscribe_inj : ∀ y z, packet_unsubscribe_out y = packet_unsubscribe_out z → y = z := fun y z h => congrArg (fun o => dInt (avD (nthA 0 (Out.res o)))) h
def packet_Check_out : (Int) → Out := fun r => .ret [.d (.int .i64 r)] [] []
theorem packet_Check_inj : ∀ y z, packet_Check_out y = packet_Check_out z → y = z := fun y z h => congrArg (fun o => dInt (avD (nthA 0 (Out.res o)))) h
def packet_both_out : (Bool) → Out := fun r => .ret [.d (.bool r)] [] []
theorem packet_both_inj : ∀ y z, packet_both_out y = packet_both_out z → y = z := fun y z h => congrArg (fun o => dBool (avD (nthA 0 (Out.res o)))) h
def packet_Client_out : (Bool) → Out := fun r => .ret [.d (.bool r)] [] []
theorem packet_Client_inj : ∀ y z, packet_Client_out y = packet_Client_out z → y = z := fun y z h => congrArg (fun o => dBool (avD (nthA 0 (Out.res o)))) h
def conn_end__fresh_out : (Bool) → Out := fun r => .ret [.d (.bool r)] [] []
theorem conn_end__fresh_inj : ∀ y z, conn_end__fresh_out y = conn_end__fresh_out z → y = z := fun y z h => congrArg (fun o => dBool (avD (nthA 0 (Out.res o)))) h
def conn_Receive_out : (api_Conn × Int) → Out := fun r => .ret [api_Conn.av r.1, .d (.int .i64 r.2)] [] []
theorem conn_Receive_inj : ∀ y z, conn_Receive_out y = conn_Receive_out z → y = z := fun y z h => Prod.ext (api_Conn.inj (congrArg (fun o => List.map avD (cellsOf (nthA 0 (Out.res o)))) h)) (congrArg (fun o => dInt (avD (nthA 1 (Out.res o)))) h)
def conn_end__unset_out : (Bool) → Out := fun r => .ret [.d (.bool r)] [] []
theorem conn_end__unset_inj : ∀ y z, conn_end__unset_out y = conn_end__unset_out z → y = z := fun y z h => congrArg (fun o => dBool (avD (nthA 0 (Out.res o)))) h
def conn_end__named_out : (Bool) → Out := fun r => .ret [.d (.bool r)] [] []
theorem conn_end__named_inj : ∀ y z, conn_end__named_out y = conn_end__named_out z → y = z := fun y z h => congrArg (fun o => dBool (avD (nthA 0 (Out.res o)))) h
def conn_Check_out : (Int) → Out := fun r => .ret [.d (.int .i64 r)] [] []
theorem conn_Check_inj : ∀ y z, conn_Check_out y = conn_Check_out z → y = z := fun y z h => congrArg (fun o => dInt (avD (nthA 0 (Out.res o)))) h
def conn_Close_out : (api_Conn) → Out := fun r => .ret [api_Conn.av r] [] []
theorem conn_Close_inj : ∀ y z, conn_Close_out y = conn_Close_out z → y = z := fun y z h => api_Conn.inj (congrArg (fun o => List.map avD (cellsOf (nthA 0 (Out.res o)))) h)
def brokerlaw49_awake_out : (Bool) → Out := fun r => .ret [.d (.bool r)] [] []
theorem brokerlaw49_awake_inj : ∀ y z, brokerlaw49_awake_out y = brokerlaw49_awake_out z → y = z := fun y z h => congrArg (fun o => dBool (avD (nthA 0 (Out.res o)))) h
def brokerref01_lower_out : (Bool) → Out := fun r => .ret [.d (.bool r)] [] []
theorem brokerref01_lower_inj : ∀ y z, brokerref01_lower_out y = brokerref01_lower_out z → y = z := fun y z h => congrArg (fun o => dBool (avD (nthA 0 (Out.res o)))) h
def brokerref01_digit_out : (Bool) → Out := fun r => .ret [.d (.bool r)] [] []
theorem brokerref01_digit_inj : ∀ y z, brokerref01_digit_out y = brokerref01_digit_out z → y = z := fun y z h => congrArg (fun o => dBool (avD (nthA 0 (Out.res o)))) h
def brokerref01_Name_out : (Bool) → Out := fun r => .ret [.d (.bool r)] [] []
theorem brokerref01_Name_inj : ∀ y z, brokerref01_Name_out y = brokerref01_Name_out z → y = z := fun y z h => congrArg (fun o => dBool (avD (nthA 0 (Out.res o)))) h
def brokerref49_Check_out : (Int) → Out := fun r => .ret [.d (.int .i64 r)] [] []
theorem brokerref49_Check_inj : ∀ y z, brokerref49_Check_out y = brokerref49_Check_out z → y = z := fun y z h => congrArg (fun o => dInt (avD (nthA 0 (Out.res o)))) h
def brokerref49_Close_out : (api_Conn) → Out := fun r => .ret [api_Conn.av r] [] []
theorem brokerref49_Close_inj : ∀ y z, brokerref49_Close_out y = brokerref49_Close_out z → y = z := fun y z h => api_Conn.inj (congrArg (fun o => List.map avD (cellsOf (nthA 0 (Out.res o)))) h)
def brokerref49_New_out : (api_Conn) → Out := fun r => .ret [api_Conn.av r] [] []
theorem brokerref49_New_inj : ∀ y z, brokerref49_New_out y = brokerref49_New_out z → y = z := fun y z h => api_Conn.inj (congrArg (fun o => List.map avD (cellsOf (nthA 0 (Out.res o)))) h)
def brokerlaw49_ConnChecks_out : (Bool) → Out := fun r => .ret [.d (.bool r)] [] []
theorem brokerlaw49_ConnChecks_inj : ∀ y z, brokerlaw49_ConnChecks_out y = brokerlaw49_ConnChecks_out z → y = z := fun y z h => congrArg (fun o => dBool (avD (nthA 0 (Out.res o)))) h
def brokerlaw49_light_out : (Bool) → Out := fun r => .ret [.d (.bool r)] [] []
theorem brokerlaw49_light_inj : ∀ y z, brokerlaw49_light_out y = brokerlaw49_light_out z → y = z := fun y z h => congrArg (fun o => dBool (avD (nthA 0 (Out.res o)))) h
def brokerref06_Used_out : (api_Packet) → Out := fun r => .ret [api_Packet.av r] [] []
theorem brokerref06_Used_inj : ∀ y z, brokerref06_Used_out y = brokerref06_Used_out z → y = z := fun y z h => api_Packet.inj (congrArg (fun o => List.map avD (cellsOf (nthA 0 (Out.res o)))) h)
def brokerref05_SameProps_out : (Bool) → Out := fun r => .ret [.d (.bool r)] [] []
theorem brokerref05_SameProps_inj : ∀ y z, brokerref05_SameProps_out y = brokerref05_SameProps_out z → y = z := fun y z h => congrArg (fun o => dBool (avD (nthA 0 (Out.res o)))) h
def brokerref05_Same_out : (Bool) → Out := fun r => .ret [.d (.bool r)] [] []
theorem brokerref05_Same_inj : ∀ y z, brokerref05_Same_out y = brokerref05_Same_out z → y = z := fun y z h => congrArg (fun o => dBool (avD (nthA 0 (Out.res o)))) h
def brokerref06_SameWill_out : (Bool) → Out := fun r => .ret [.d (.bool r)] [] []
theorem brokerref06_SameWill_inj : ∀ y z, brokerref06_SameWill_out y = brokerref06_SameWill_out z → y = z := fun y z h => congrArg (fun o => dBool (avD (nthA 0 (Out.res o)))) h
def brokerref06_SameSubs_out : (Bool) → Out := fun r => .ret [.d (.bool r)] [] []
theorem brokerref06_SameSubs_inj : ∀ y z, brokerref06_SameSubs_out y = brokerref06_SameSubs_out z → y = z := fun y z h => congrArg (fun o => dBool (avD (nthA 0 (Out.res o)))) h
def brokerref01_Same_out : (Bool) → Out := fun r => .ret [.d (.bool r)] [] []
theorem brokerref01_Same_inj : ∀ y z, brokerref01_Same_out y = brokerref01_Same_out z → y = z := fun y z h => congrArg (fun o => dBool (avD (nthA 0 (Out.res o)))) h
def brokerref06_SameNumbers_out : (Bool) → Out := fun r => .ret [.d (.bool r)] [] []
theorem brokerref06_SameNumbers_inj : ∀ y z, brokerref06_SameNumbers_out y = brokerref06_SameNumbers_out z → y = z := fun y z h => congrArg (fun o => dBool (avD (nthA 0 (Out.res o)))) h
def brokerref06_Same_out : (Bool) → Out := fun r => .ret [.d (.bool r)] [] []
theorem brokerref06_Same_inj : ∀ y z, brokerref06_Same_out y = brokerref06_Same_out z → y = z := fun y z h => congrArg (fun o => dBool (avD (nthA 0 (Out.res o)))) h
def brokerref01_Has_out : (Bool) → Out := fun r => .ret [.d (.bool r)] [] []
theorem brokerref01_Has_inj : ∀ y z, brokerref01_Has_out y = brokerref01_Has_out z → y = z := fun y z h => congrArg (fun o => dBool (avD (nthA 0 (Out.res o)))) h
def brokerref01_Levels_out : ((List Str)) → Out := fun r => .ret [.row 0] [] [⟨[.str], 9, 16, (List.map encS r)⟩]
theorem brokerref01_Levels_inj : ∀ y z, brokerref01_Levels_out y = brokerref01_Levels_out z → y = z := fun y z h => map_inj encS_inj (congrArg (fun o => rowX 0 (Out.rws o)) h)
def brokerref01_sized_out : (Bool) → Out := fun r => .ret [.d (.bool r)] [] []
theorem brokerref01_sized_inj : ∀ y z, brokerref01_sized_out y = brokerref01_sized_out z → y = z := fun y z h => congrArg (fun o => dBool (avD (nthA 0 (Out.res o)))) h
def brokerref01_Valid_out : (Bool) → Out := fun r => .ret [.d (.bool r)] [] []
theorem brokerref01_Valid_inj : ∀ y z, brokerref01_Valid_out y = brokerref01_Valid_out z → y = z := fun y z h => congrArg (fun o => dBool (avD (nthA 0 (Out.res o)))) h
def brokerref05_Key_out : (Bool) → Out := fun r => .ret [.d (.bool r)] [] []
theorem brokerref05_Key_inj : ∀ y z, brokerref05_Key_out y = brokerref05_Key_out z → y = z := fun y z h => congrArg (fun o => dBool (avD (nthA 0 (Out.res o)))) h
def brokerref05_Props_out : (Int) → Out := fun r => .ret [.d (.int .i64 r)] [] []
theorem brokerref05_Props_inj : ∀ y z, brokerref05_Props_out y = brokerref05_Props_out z → y = z := fun y z h => congrArg (fun o => dInt (avD (nthA 0 (Out.res o)))) h
def brokerref05_Check_out : (Int) → Out := fun r => .ret [.d (.int .i64 r)] [] []
theorem brokerref05_Check_inj : ∀ y z, brokerref05_Check_out y = brokerref05_Check_out z → y = z := fun y z h => congrArg (fun o => dInt (avD (nthA 0 (Out.res o)))) h
def brokerref06_Will_out : (Int) → Out := fun r => .ret [.d (.int .i64 r)] [] []
theorem brokerref06_Will_inj : ∀ y z, brokerref06_Will_out y = brokerref06_Will_out z → y = z := fun y z h => congrArg (fun o => dInt (avD (nthA 0 (Out.res o)))) h
def brokerref06_connect_out : (Int) → Out := fun r => .ret [.d (.int .i64 r)] [] []
theorem brokerref06_connect_inj : ∀ y z, brokerref06_connect_out y = brokerref06_connect_out z → y = z := fun y z h => congrArg (fun o => dInt (avD (nthA 0 (Out.res o)))) h
def brokerref06_ident_out : (Int) → Out := fun r => .ret [.d (.int .i64 r)] [] []
theorem brokerref06_ident_inj : ∀ y z, brokerref06_ident_out y = brokerref06_ident_out z → y = z := fun y z h => congrArg (fun o => dInt (avD (nthA 0 (Out.res o)))) h
def brokerref06_publish_out : (Int) → Out := fun r => .ret [.d (.int .i64 r)] [] []
theorem brokerref06_publish_inj : ∀ y z, brokerref06_publish_out y = brokerref06_publish_out z → y = z := fun y z h => congrArg (fun o => dInt (avD (nthA 0 (Out.res o)))) h
def brokerref06_Code_out : (Bool) → Out := fun r => .ret [.d (.bool r)] [] []
theorem brokerref06_Code_inj : ∀ y z, brokerref06_Code_out y = brokerref06_Code_out z → y = z := fun y z h => congrArg (fun o => dBool (avD (nthA 0 (Out.res o)))) h
def brokerref06_count_out : (Int) → Out := fun r => .ret [.d (.int .i64 r)] [] []
theorem brokerref06_count_inj : ∀ y z, brokerref06_count_out y = brokerref06_count_out z → y = z := fun y z h => congrArg (fun o => dInt (avD (nthA 0 (Out.res o)))) h
def brokerref01_Begins_out : (Bool) → Out := fun r => .ret [.d (.bool r)] [] []
theorem brokerref01_Begins_inj : ∀ y z, brokerref01_Begins_out y = brokerref01_Begins_out z → y = z := fun y z h => congrArg (fun o => dBool (avD (nthA 0 (Out.res o)))) h
def brokerref01_Filter_out : (Bool) → Out := fun r => .ret [.d (.bool r)] [] []
theorem brokerref01_Filter_inj : ∀ y z, brokerref01_Filter_out y = brokerref01_Filter_out z → y = z := fun y z h => congrArg (fun o => dBool (avD (nthA 0 (Out.res o)))) h
def brokerref01_Shared_out : (Str × Str × Bool) → Out := fun r => .ret [.d (.str r.1), .d (.str r.2.1), .d (.bool r.2.2)] [] []
theorem brokerref01_Shared_inj : ∀ y z, brokerref01_Shared_out y = brokerref01_Shared_out z → y = z := fun y z h => Prod.ext (congrArg (fun o => dStr (avD (nthA 0 (Out.res o)))) h) (Prod.ext (congrArg (fun o => dStr (avD (nthA 1 (Out.res o)))) h) (congrArg (fun o => dBool (avD (nthA 2 (Out.res o)))) h))
def brokerref01_Wanted_out : (Bool) → Out := fun r => .ret [.d (.bool r)] [] []
theorem brokerref01_Wanted_inj : ∀ y z, brokerref01_Wanted_out y = brokerref01_Wanted_out z → y = z := fun y z h => congrArg (fun o => dBool (avD (nthA 0 (Out.res o)))) h
def brokerref06_Sub_out : (Int) → Out := fun r => .ret [.d (.int .i64 r)] [] []
theorem brokerref06_Sub_inj : ∀ y z, brokerref06_Sub_out y = brokerref06_Sub_out z → y = z := fun y z h => congrArg (fun o => dInt (avD (nthA 0 (Out.res o)))) h
def brokerref06_elements_out : (Int) → Out := fun r => .ret [.d (.int .i64 r)] [] []
theorem brokerref06_elements_inj : ∀ y z, brokerref06_elements_out y = brokerref06_elements_out z → y = z := fun y z h => congrArg (fun o => dInt (avD (nthA 0 (Out.res o)))) h
def brokerref06_Check_out : (Int) → Out := fun r => .ret [.d (.int .i64 r)] [] []
theorem brokerref06_Check_inj : ∀ y z, brokerref06_Check_out y = brokerref06_Check_out z → y = z := fun y z h => congrArg (fun o => dInt (avD (nthA 0 (Out.res o)))) h
def brokerref06_both_out : (Bool) → Out := fun r => .ret [.d (.bool r)] [] []
theorem brokerref06_both_inj : ∀ y z, brokerref06_both_out y = brokerref06_both_out z → y = z := fun y z h => congrArg (fun o => dBool (avD (nthA 0 (Out.res o)))) h
def brokerref06_Client_out : (Bool) → Out := fun r => .ret [.d (.bool r)] [] []
theorem brokerref06_Client_inj : ∀ y z, brokerref06_Client_out y = brokerref06_Client_out z → y = z := fun y z h => congrArg (fun o => dBool (avD (nthA 0 (Out.res o)))) h
def brokerref49_Receive_out : (api_Conn × Int) → Out := fun r => .ret [api_Conn.av r.1, .d (.int .i64 r.2)] [] []
theorem brokerref49_Receive_inj : ∀ y z, brokerref49_Receive_out y = brokerref49_Receive_out z → y = z := fun y z h => Prod.ext (api_Conn.inj (congrArg (fun o => List.map avD (cellsOf (nthA 0 (Out.res o)))) h)) (congrArg (fun o => dInt (avD (nthA 1 (Out.res o)))) h)
def brokerlaw49_ConnReceives_out : (Bool) → Out := fun r => .ret [.d (.bool r)] [] []
theorem brokerlaw49_ConnReceives_inj : ∀ y z, brokerlaw49_ConnReceives_out y = brokerlaw49_ConnReceives_out z → y = z := fun y z h => congrArg (fun o => dBool (avD (nthA 0 (Out.res o)))) h
def brokerref49_Expired_out : (Bool) → Out := fun r => .ret [.d (.bool r)] [] []
theorem brokerref49_Expired_inj : ∀ y z, brokerref49_Expired_out y = brokerref49_Expired_out z → y = z := fun y z h => congrArg (fun o => dBool (avD (nthA 0 (Out.res o)))) h
def brokerlaw49_ConnExpires_out : (Bool) → Out := fun r => .ret [.d (.bool r)] [] []
theorem brokerlaw49_ConnExpires_inj : ∀ y z, brokerlaw49_ConnExpires_out y = brokerlaw49_ConnExpires_out z → y = z := fun y z h => congrArg (fun o => dBool (avD (nthA 0 (Out.res o)))) h
def brokerlaw49_ConnSequence_out : (Bool) → Out := fun r => .ret [.d (.bool r)] [] []
theorem brokerlaw49_ConnSequence_inj : ∀ y z, brokerlaw49_ConnSequence_out y = brokerlaw49_ConnSequence_out z → y = z := fun y z h => congrArg (fun o => dBool (avD (nthA 0 (Out.res o)))) h
def good : FuncId → Out → Prop := fun f o => match f with | 12 => ∃ x, conn_New_out x = o | 17 => ∃ x, conn_Expired_out x = o | 39 => ∃ x, packet_is_out x = o | 41 => ∃ x, packet_used_out x = o | 59 => ∃ x, packet_plainOf_out x = o | 60 => ∃ x, message_Same_out x = o | 61 => ∃ x, packet_subs_out x = o | 62 => ∃ x, packet_texts_out x = o | 63 => ∃ x, packet_numbers_out x = o | 40 => ∃ x, packet_Same_out x = o | 36 => ∃ x, topic_Name_out x = o | 83 => ∃ x, topic_sized_out x = o | 73 => ∃ x, topic_Valid_out x = o | 74 => ∃ x, message_is_out x = o | 84 => ∃ x, message_key_out x = o | 75 => ∃ x, message_Props_out x = o | 64 => ∃ x, message_Check_out x = o | 42 => ∃ x, packet_connect_out x = o | 43 => ∃ x, packet_code_out x = o | 45 => ∃ x, packet_ident_out x = o | 44 => ∃ x, packet_publish_out x = o | 65 => ∃ x, packet_counted_out x = o | 88 => ∃ x, stringslite_HasPrefix_out x = o | 89 => ∃ x, stringslite_CutPrefix_out x = o | 85 => ∃ x, strings_CutPrefix_out x = o | 94 => ∃ x, stringslite_IndexByte_out x = o | 92 => ∃ x, stringslite_Index_out x = o | 90 => ∃ x, stringslite_Cut_out x = o | 86 => ∃ x, strings_Cut_out x = o | 100 => ∃ x, strings_Index_out x = o | 99 => ∃ x, strings_Count_out x = o | 93 => ∃ x, strings_genSplit_out x = o | 91 => ∃ x, strings_Split_out x = o | 87 => ∃ x, topic_Levels_out x = o | 77 => ∃ x, topic_Filter_out x = o | 78 => ∃ x, strings_HasPrefix_out x = o | 76 => ∃ x, topic_Shared_out x = o | 66 => ∃ x, packet_wanted_out x = o | 46 => ∃ x, packet_subscribe_out x = o | 47 => ∃ x, packet_codes_out x = o | 48 => ∃ x, packet_unsubscribe_out x = o | 25 => ∃ x, packet_Check_out x = o | 49 => ∃ x, packet_both_out x = o | 26 => ∃ x, packet_Client_out x = o | 21 => ∃ x, conn_end__fresh_out x = o | 15 => ∃ x, conn_Receive_out x = o | 22 => ∃ x, conn_end__unset_out x = o | 23 => ∃ x, conn_end__named_out x = o | 8 => ∃ x, conn_Check_out x = o | 10 => ∃ x, conn_Close_out x = o | 7 => ∃ x, brokerlaw49_awake_out x = o | 37 => ∃ x, brokerref01_lower_out x = o | 38 => ∃ x, brokerref01_digit_out x = o | 24 => ∃ x, brokerref01_Name_out x = o | 9 => ∃ x, brokerref49_Check_out x = o | 11 => ∃ x, brokerref49_Close_out x = o | 13 => ∃ x, brokerref49_New_out x = o | 3 => ∃ x, brokerlaw49_ConnChecks_out x = o | 14 => ∃ x, brokerlaw49_light_out x = o | 28 => ∃ x, brokerref06_Used_out x = o | 67 => ∃ x, brokerref05_SameProps_out x = o | 50 => ∃ x, brokerref05_Same_out x = o | 51 => ∃ x, brokerref06_SameWill_out x = o | 52 => ∃ x, brokerref06_SameSubs_out x = o | 53 => ∃ x, brokerref01_Same_out x = o | 54 => ∃ x, brokerref06_SameNumbers_out x = o | 27 => ∃ x, brokerref06_Same_out x = o | 80 => ∃ x, brokerref01_Has_out x = o | 82 => ∃ x, brokerref01_Levels_out x = o | 79 => ∃ x, brokerref01_sized_out x = o | 68 => ∃ x, brokerref01_Valid_out x = o | 81 => ∃ x, brokerref05_Key_out x = o | 69 => ∃ x, brokerref05_Props_out x = o | 56 => ∃ x, brokerref05_Check_out x = o | 55 => ∃ x, brokerref06_Will_out x = o | 29 => ∃ x, brokerref06_connect_out x = o | 32 => ∃ x, brokerref06_ident_out x = o | 30 => ∃ x, brokerref06_publish_out x = o | 31 => ∃ x, brokerref06_Code_out x = o | 33 => ∃ x, brokerref06_count_out x = o | 72 => ∃ x, brokerref01_Begins_out x = o | 71 => ∃ x, brokerref01_Filter_out x = o | 70 => ∃ x, brokerref01_Shared_out x = o | 58 => ∃ x, brokerref01_Wanted_out x = o | 57 => ∃ x, brokerref06_Sub_out x = o | 34 => ∃ x, brokerref06_elements_out x = o | 19 => ∃ x, brokerref06_Check_out x = o | 35 => ∃ x, brokerref06_both_out x = o | 20 => ∃ x, brokerref06_Client_out x = o | 16 => ∃ x, brokerref49_Receive_out x = o | 4 => ∃ x, brokerlaw49_ConnReceives_out x = o | 18 => ∃ x, brokerref49_Expired_out x = o | 5 => ∃ x, brokerlaw49_ConnExpires_out x = o | 6 => ∃ x, brokerlaw49_ConnSequence_out x = o | _ => False
end Te
end PX
