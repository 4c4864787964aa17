import Derived.Test.YtcfpheihkbkloaaDoorMod
import Derived.Test.YtcfpheihkbkloaaDoorProg
set_option linter.unusedVariables false
set_option linter.unusedSimpArgs false
set_option linter.unusedVariables false
set_option linter.unusedSimpArgs false
noncomputable section
namespace PX
open Go
open Md
namespace Te
def tyL : List (Nat × TI) := [(3, ⟨[.int .i64], false, 8, [], 0⟩),
  (4, ⟨[.bool], false, 1, [], 0⟩),
  (5, ⟨[.int .u8], false, 1, [], 0⟩),
  (9, ⟨[.str], false, 16, [], 0⟩),
  (21, ⟨[.int .i32], false, 4, [], 0⟩),
  (22, ⟨[.sl [.int .i64]], false, 24, [], 3⟩),
  (24, ⟨[.sl [.int .i64]], true, 24, [(0, 22)], 0⟩),
  (25, ⟨[.int .i64], false, 8, [], 0⟩),
  (29, ⟨[.sl [.str, .str]], false, 24, [], 76⟩),
  (31, ⟨[.str, .str, .int .i64, .bool, .int .i64, .int .i64, .str, .int .i64, .sl [.str, .str]], true, 112, [(0, 9), (1, 9), (2, 3), (3, 4), (4, 3), (5, 3), (6, 9), (7, 3), (8, 29)], 0⟩),
  (33, ⟨[.bool, .int .i64, .str, .str, .int .i64, .bool, .int .i64, .int .i64, .str, .int .i64, .sl [.str, .str]], true, 128, [(0, 4), (1, 3), (2, 31)], 0⟩),
  (34, ⟨[.sl [.str, .int .i64, .bool]], false, 24, [], 70⟩),
  (35, ⟨[.sl [.str]], false, 24, [], 9⟩),
  (37, ⟨[.int .i64, .int .i64, .bool, .str, .str, .int .i64, .bool, .int .i64, .int .i64, .str, .int .i64, .sl [.str, .str], .str, .str, .bool, .int .i64, .int .i64, .int .i64, .bool, .int .i64, .str, .str, .int .i64, .bool, .int .i64, .int .i64, .str, .int .i64, .sl [.str, .str], .bool, .int .i64, .sl [.str, .int .i64, .bool], .sl [.str], .sl [.int .i64]], true, 416, [(0, 3), (1, 3), (2, 4), (3, 31), (12, 9), (13, 9), (14, 4), (15, 3), (16, 3), (17, 3), (18, 33), (29, 4), (30, 3), (31, 34), (32, 35), (33, 22)], 0⟩),
  (43, ⟨[.sl [.int .i64, .int .i64, .bool, .str, .str, .int .i64, .bool, .int .i64, .int .i64, .str, .int .i64, .sl [.str, .str], .str, .str, .bool, .int .i64, .int .i64, .int .i64, .bool, .int .i64, .str, .str, .int .i64, .bool, .int .i64, .int .i64, .str, .int .i64, .sl [.str, .str], .bool, .int .i64, .sl [.str, .int .i64, .bool], .sl [.str], .sl [.int .i64]]], false, 24, [], 37⟩),
  (48, ⟨[.sl [.int .i64], .int .i64], true, 32, [(0, 22), (1, 3)], 0⟩),
  (64, ⟨[.int .u64], false, 8, [], 0⟩),
  (70, ⟨[.str, .int .i64, .bool], true, 32, [(0, 9), (1, 3), (2, 4)], 0⟩),
  (76, ⟨[.str, .str], true, 32, [(0, 9), (1, 9)], 0⟩),
  (78, ⟨[.int .i64, .int .i64, .int .i64, .int .i64, .int .i64, .int .i64, .int .i64, .bool, .bool, .bool, .bool, .str, .str], true, 96, [(0, 3), (1, 3), (2, 3), (3, 3), (4, 3), (5, 3), (6, 3), (7, 4), (8, 4), (9, 4), (10, 4), (11, 9), (12, 9)], 0⟩)]
def fnL : List (Nat × Func) := [(5, Go.Proofs.Tryd.f5), (34, Go.Proofs.Tryd.f34), (36, Go.Proofs.Tryd.f36), (46, Go.Proofs.Tryd.f46), (47, Go.Proofs.Tryd.f47), (48, Go.Proofs.Tryd.f48), (49, Go.Proofs.Tryd.f49), (50, Go.Proofs.Tryd.f50), (35, Go.Proofs.Tryd.f35), (51, Go.Proofs.Tryd.f51), (64, Go.Proofs.Tryd.f64), (57, Go.Proofs.Tryd.f57), (58, Go.Proofs.Tryd.f58), (65, Go.Proofs.Tryd.f65), (59, Go.Proofs.Tryd.f59), (52, Go.Proofs.Tryd.f52), (37, Go.Proofs.Tryd.f37), (38, Go.Proofs.Tryd.f38), (40, Go.Proofs.Tryd.f40), (39, Go.Proofs.Tryd.f39), (53, Go.Proofs.Tryd.f53), (69, Go.Proofs.Tryd.f69), (71, Go.Proofs.Tryd.f71), (66, Go.Proofs.Tryd.f66), (76, Go.Proofs.Tryd.f76), (74, Go.Proofs.Tryd.f74), (72, Go.Proofs.Tryd.f72), (67, Go.Proofs.Tryd.f67), (82, Go.Proofs.Tryd.f82), (81, Go.Proofs.Tryd.f81), (75, Go.Proofs.Tryd.f75), (73, Go.Proofs.Tryd.f73), (68, Go.Proofs.Tryd.f68), (61, Go.Proofs.Tryd.f61), (62, Go.Proofs.Tryd.f62), (60, Go.Proofs.Tryd.f60), (54, Go.Proofs.Tryd.f54), (41, Go.Proofs.Tryd.f41), (42, Go.Proofs.Tryd.f42), (43, Go.Proofs.Tryd.f43), (26, Go.Proofs.Tryd.f26), (45, Go.Proofs.Tryd.f45), (30, Go.Proofs.Tryd.f30), (31, Go.Proofs.Tryd.f31), (16, Go.Proofs.Tryd.f16), (8, Go.Proofs.Tryd.f8), (27, Go.Proofs.Tryd.f27), (44, Go.Proofs.Tryd.f44), (28, Go.Proofs.Tryd.f28), (29, Go.Proofs.Tryd.f29), (14, Go.Proofs.Tryd.f14), (32, Go.Proofs.Tryd.f32), (18, Go.Proofs.Tryd.f18), (10, Go.Proofs.Tryd.f10), (6, Go.Proofs.Tryd.f6), (15, Go.Proofs.Tryd.f15), (7, Go.Proofs.Tryd.f7), (17, Go.Proofs.Tryd.f17), (9, Go.Proofs.Tryd.f9), (3, Go.Proofs.Tryd.f3), (19, Go.Proofs.Tryd.f19), (11, Go.Proofs.Tryd.f11), (20, Go.Proofs.Tryd.f20), (12, Go.Proofs.Tryd.f12), (33, Go.Proofs.Tryd.f33), (21, Go.Proofs.Tryd.f21), (22, Go.Proofs.Tryd.f22), (23, Go.Proofs.Tryd.f23), (24, Go.Proofs.Tryd.f24), (25, Go.Proofs.Tryd.f25), (13, Go.Proofs.Tryd.f13), (4, Go.Proofs.Tryd.f4)]
def tmL : List (Nat × (List Sh × List (TypeId × List Sh))) := [(5, ([.int .i64], [])),
  (34, ([.bool], [])),
  (36, ([api_Packet.sh], [])),
  (46, ([packet_plain.sh], [])),
  (47, ([.bool], [])),
  (48, ([.bool], [])),
  (49, ([.bool], [])),
  (50, ([.bool], [])),
  (35, ([.bool], [])),
  (51, ([.bool], [])),
  (64, ([.bool], [])),
  (57, ([.bool], [])),
  (58, ([.bool], [])),
  (65, ([.bool], [])),
  (59, ([.int .i64], [])),
  (52, ([.int .i64], [])),
  (37, ([.int .i64], [])),
  (38, ([.bool], [])),
  (40, ([.int .i64], [])),
  (39, ([.int .i64], [])),
  (53, ([.int .i64], [])),
  (69, ([.bool], [])),
  (71, ([.str, .bool], [])),
  (66, ([.str, .bool], [])),
  (76, ([.int .i64], [])),
  (74, ([.int .i64], [])),
  (72, ([.str, .str, .bool], [])),
  (67, ([.str, .str, .bool], [])),
  (82, ([.int .i64], [])),
  (81, ([.int .i64], [])),
  (75, ([.sl [.str]], [])),
  (73, ([.sl [.str]], [])),
  (68, ([.sl [.str]], [])),
  (61, ([.bool], [])),
  (62, ([.bool], [])),
  (60, ([.str, .str, .bool], [])),
  (54, ([.bool, .bool], [])),
  (41, ([.int .i64], [])),
  (42, ([.int .i64], [])),
  (43, ([.int .i64], [])),
  (26, ([.int .i64], [])),
  (45, ([.bool], [])),
  (30, ([.bool], [])),
  (31, ([.bool], [])),
  (16, ([.int .i64, .bool], [])),
  (8, ([.bool], [])),
  (27, ([.row 0 [.int .i64] 3 8], [])),
  (44, ([.row 0 [.int .i64] 3 8], [])),
  (28, ([.row 0 [.int .i64] 3 8], [])),
  (29, ([api_Packet.sh, .bool], [])),
  (14, ([api_Inbox.sh, .bool, .row 0 api_Packet.ks 37 416, .int .i64], [])),
  (32, ([.row 0 [.int .i64] 3 8], [])),
  (18, ([.row 0 [.int .i64] 3 8], [])),
  (10, ([api_Inbox.sh, api_Packet.sh, .int .i64], [])),
  (6, ([.bool], [])),
  (15, ([.int .i64], [])),
  (7, ([.int .i64], [])),
  (17, ([.bool], [])),
  (9, ([.bool], [])),
  (3, ([.bool], [])),
  (19, ([api_Pool.sh, .bool], [])),
  (11, ([api_Inbox.sh, api_Packet.sh, .int .i64], [])),
  (20, ([.bool], [])),
  (12, ([.bool], [])),
  (33, ([.bool], [])),
  (21, ([.bool], [])),
  (22, ([.bool], [])),
  (23, ([.bool], [])),
  (24, ([.bool], [])),
  (25, ([.bool], [])),
  (13, ([.bool], [])),
  (4, ([.bool], []))]
def mvL : List (Nat × Bool) := [(44, true), (32, true)]
def hlL : List (Nat × List (Nat × Hint)) := [(5, [(5, ⟨[(3, .int .i64), (11, .sl [.int .i64]), (12, .int .i64), (13, .int .i64)], [], []⟩)]),
  (47, [(4, ⟨[(3, .ptr 1000000000 0), (71, .sl api_Prop.ks), (72, .int .i64), (73, .int .i64)], [(31, api_Message.shs)], []⟩)]),
  (48, [(4, ⟨[(1, .sl api_Sub.ks), (12, .sl api_Sub.ks), (13, .int .i64), (14, .int .i64)], [], []⟩)]),
  (49, [(4, ⟨[(1, .sl [.str]), (12, .sl [.str]), (13, .int .i64), (14, .int .i64)], [], []⟩)]),
  (50, [(4, ⟨[(1, .sl [.int .i64]), (12, .sl [.int .i64]), (13, .int .i64), (14, .int .i64)], [], []⟩)]),
  (51, [(4, ⟨[(15, .it 4000)], [], []⟩)]),
  (64, [(5, ⟨[(3, .int .i64), (15, .it 4000)], [], []⟩)]),
  (57, [(4, ⟨[(9, .it 4000)], [], []⟩)]),
  (65, [(4, ⟨[(0, .str), (3, .int .i64)], [], []⟩)]),
  (59, [(4, ⟨[(0, .sl api_Prop.ks), (8, .sl api_Prop.ks), (9, .int .i64), (10, .int .i64)], [], []⟩)]),
  (81, [(6, ⟨[(0, .str), (1, .str), (5, .int .i64)], [], []⟩)]),
  (75, [(11, ⟨[(0, .str), (1, .str), (2, .int .i64), (3, .int .i64), (9, .row 3009 [.str] 9 16), (10, .int .i64)], [], []⟩)]),
  (61, [(6, ⟨[(3, .sl [.str]), (4, .bool), (15, .sl [.str]), (16, .int .i64), (17, .int .i64)], [], []⟩), (9, ⟨[(3, .sl [.str]), (4, .bool), (5, .int .i64), (6, .str), (15, .sl [.str]), (16, .int .i64), (17, .int .i64), (23, .it 4000)], [], []⟩)]),
  (41, [(5, ⟨[(18, .sl api_Sub.ks), (19, .int .i64), (20, .int .i64)], [], []⟩)]),
  (42, [(5, ⟨[(16, .sl [.int .i64]), (17, .int .i64), (18, .int .i64)], [], []⟩)]),
  (43, [(5, ⟨[(18, .sl [.str]), (19, .int .i64), (20, .int .i64)], [], []⟩)]),
  (16, [(3, ⟨[(0, .sl [.int .i64]), (1, .int .i64), (6, .int .i64), (7, .int .i64), (8, .int .i64)], [], []⟩)]),
  (15, [(4, ⟨[(1, .ptr 1000000000 0), (3, .int .i64)], [(48, api_Pool.shs)], []⟩)]),
  (17, [(2, ⟨[(1, .int .i64), (2, .ptr 1000000000 0), (5, .int .i64)], [(48, api_Pool.shs)], []⟩)]),
  (19, [(3, ⟨[(1, .int .i64), (2, .ptr 1000000000 0), (4, .ptr 1000000001 0), (6, .row 3006 [.int .i64] 3 8), (7, .int .i64)], [(48, api_Pool.shs), (48, api_Pool.shs)], []⟩)]),
  (20, [(4, ⟨[(0, .sl [.int .i64]), (1, .sl [.int .i64]), (5, .int .i64)], [], []⟩)]),
  (33, [(4, ⟨[(0, .sl api_Prop.ks), (1, .sl api_Prop.ks), (5, .int .i64)], [], []⟩)]),
  (23, [(4, ⟨[(0, .sl api_Sub.ks), (1, .sl api_Sub.ks), (5, .int .i64)], [], []⟩)]),
  (24, [(4, ⟨[(0, .sl [.str]), (1, .sl [.str]), (5, .int .i64)], [], []⟩)]),
  (25, [(4, ⟨[(0, .sl [.int .i64]), (1, .sl [.int .i64]), (5, .int .i64)], [], []⟩)])]
def hrL : List (Nat × List (Nat × Hint)) := [(47, [(3, ⟨[(2, .ptr 1000000000 0), (3, .ptr 1000000001 0)], [(31, api_Message.shs), (31, api_Message.shs)], []⟩)]),
  (51, [(3, ⟨[(0, .str)], [], []⟩), (7, ⟨[(3, .int .i64), (4, .int .i32), (5, .bool), (15, .it 4000)], [], []⟩)]),
  (64, [(3, ⟨[(0, .str)], [], []⟩)]),
  (65, [(3, ⟨[(0, .str)], [], []⟩)]),
  (75, [(7, ⟨[(0, .str), (1, .str), (2, .int .i64), (3, .int .i64)], [], []⟩), (17, ⟨[(0, .str), (9, .row 3009 [.str] 9 16), (10, .int .i64)], [], []⟩)]),
  (14, [(7, ⟨[(2, .ptr 1000000000 0), (3, .ptr 1000000001 0), (4, .ptr 1000000002 0), (9, .bool)], [(24, api_Inbox.shs), (37, api_Packet.shs), (24, api_Inbox.shs)], []⟩), (9, ⟨[(2, .ptr 1000000000 0), (3, .ptr 1000000001 0), (4, .ptr 1000000002 0), (9, .bool)], [(24, api_Inbox.shs), (37, api_Packet.shs), (24, api_Inbox.shs)], []⟩), (12, ⟨[(3, .ptr 1000000000 0), (4, .ptr 1000000001 0), (9, .bool), (10, .ptr 1000000002 0)], [(37, api_Packet.shs), (24, api_Inbox.shs), (24, [.row 50200 [.int .i64] 3 8])], []⟩)]),
  (10, [(5, ⟨[(2, .ptr 1000000000 0), (3, .ptr 1000000001 0), (4, .ptr 1000000002 0), (5, .ptr 1000000003 0)], [(24, api_Inbox.shs), (37, api_Packet.shs), (24, api_Inbox.shs), (37, api_Packet.shs)], []⟩)]),
  (11, [(5, ⟨[(2, .ptr 1000000000 0), (3, .ptr 1000000001 0), (4, .ptr 1000000002 0), (5, .ptr 1000000003 0)], [(24, api_Inbox.shs), (37, api_Packet.shs), (24, api_Inbox.shs), (37, api_Packet.shs)], []⟩)]),
  (13, [(3, ⟨[(2, .ptr 1000000000 0), (3, .ptr 1000000001 0)], [(37, api_Packet.shs), (37, api_Packet.shs)], []⟩), (5, ⟨[(2, .ptr 1000000000 0), (3, .ptr 1000000001 0)], [(37, api_Packet.shs), (37, api_Packet.shs)], []⟩)]),
  (4, [(7, ⟨[(3, .ptr 1000000000 0), (5, .ptr 1000000001 0), (6, .ptr 1000000002 0), (9, .ptr 1000000003 0), (10, .int .i64)], [(37, api_Packet.shs), (24, api_Inbox.shs), (37, api_Packet.shs), (37, api_Packet.shs)], []⟩)])]
def eqL : List (Nat × List CK) := [(70, [.str, .int .i64, .bool]), (76, [.str, .str]), (78, [.int .i64, .int .i64, .int .i64, .int .i64, .int .i64, .int .i64, .int .i64, .bool, .bool, .bool, .bool, .str, .str])]
def prL : List (Nat × Prim) := [(83, .indexByte), (87, .countByte)]
def lbL : List (Nat × LibK) := [(44, .insert [.int .i64] 3 8), (32, .spec (delF [.int .i64] 3 8))]
def SE : Env := { fn := assoc fnL, ty := assoc tyL, tm := assoc tmL, mv := fun f => match assoc mvL f with | some b => b | none => false, eqt := assoc eqL, pv := fun _ => none, hl := fun f r => match assoc hlL f with | some l => assoc l r | none => none, hr := fun f r => match assoc hrL f with | some l => assoc l r | none => none, prim := assoc prL, lib := assoc lbL }
def inbound_Check_out : (Int) → Out := fun r => .ret [.d (.int .i64 r)] [] []
theorem inbound_Check_inj : ∀ y z, inbound_Check_out y = inbound_Check_out z → y = z := fun y z h => congrArg (fun o => dInt (avD (nthA 0 (Out.res o)))) h
def packet_is_out : (Bool) → Out := fun r => .ret [.d (.bool r)] [] []
theorem packet_is_inj : ∀ y z, packet_is_out y = packet_is_out z → y = z := fun y z h => congrArg (fun o => dBool (avD (nthA 0 (Out.res o)))) h
def packet_used_out : (api_Packet) → Out := fun r => .ret [api_Packet.av r] [] []
theorem packet_used_inj : ∀ y z, packet_used_out y = packet_used_out z → y = z := fun y z h => api_Packet.inj (congrArg (fun o => List.map avD (cellsOf (nthA 0 (Out.res o)))) h)
def packet_plainOf_out : (packet_plain) → Out := fun r => .ret [packet_plain.av r] [] []
theorem packet_plainOf_inj : ∀ y z, packet_plainOf_out y = packet_plainOf_out z → y = z := fun y z h => packet_plain.inj (congrArg (fun o => List.map avD (cellsOf (nthA 0 (Out.res o)))) h)
def message_Same_out : (Bool) → Out := fun r => .ret [.d (.bool r)] [] []
theorem message_Same_inj : ∀ y z, message_Same_out y = message_Same_out z → y = z := fun y z h => congrArg (fun o => dBool (avD (nthA 0 (Out.res o)))) h
def packet_subs_out : (Bool) → Out := fun r => .ret [.d (.bool r)] [] []
theorem packet_subs_inj : ∀ y z, packet_subs_out y = packet_subs_out z → y = z := fun y z h => congrArg (fun o => dBool (avD (nthA 0 (Out.res o)))) h
def packet_texts_out : (Bool) → Out := fun r => .ret [.d (.bool r)] [] []
theorem packet_texts_inj : ∀ y z, packet_texts_out y = packet_texts_out z → y = z := fun y z h => congrArg (fun o => dBool (avD (nthA 0 (Out.res o)))) h
def packet_numbers_out : (Bool) → Out := fun r => .ret [.d (.bool r)] [] []
theorem packet_numbers_inj : ∀ y z, packet_numbers_out y = packet_numbers_out z → y = z := fun y z h => congrArg (fun o => dBool (avD (nthA 0 (Out.res o)))) h
def packet_Same_out : (Bool) → Out := fun r => .ret [.d (.bool r)] [] []
theorem packet_Same_inj : ∀ y z, packet_Same_out y = packet_Same_out z → y = z := fun y z h => congrArg (fun o => dBool (avD (nthA 0 (Out.res o)))) h
def topic_Name_out : (Bool) → Out := fun r => .ret [.d (.bool r)] [] []
theorem topic_Name_inj : ∀ y z, topic_Name_out y = topic_Name_out z → y = z := fun y z h => congrArg (fun o => dBool (avD (nthA 0 (Out.res o)))) h
def topic_sized_out : (Bool) → Out := fun r => .ret [.d (.bool r)] [] []
theorem topic_sized_inj : ∀ y z, topic_sized_out y = topic_sized_out z → y = z := fun y z h => congrArg (fun o => dBool (avD (nthA 0 (Out.res o)))) h
def topic_Valid_out : (Bool) → Out := fun r => .ret [.d (.bool r)] [] []
theorem topic_Valid_inj : ∀ y z, topic_Valid_out y = topic_Valid_out z → y = z := fun y z h => congrArg (fun o => dBool (avD (nthA 0 (Out.res o)))) h
def message_is_out : (Bool) → Out := fun r => .ret [.d (.bool r)] [] []
theorem message_is_inj : ∀ y z, message_is_out y = message_is_out z → y = z := fun y z h => congrArg (fun o => dBool (avD (nthA 0 (Out.res o)))) h
def message_key_out : (Bool) → Out := fun r => .ret [.d (.bool r)] [] []
theorem message_key_inj : ∀ y z, message_key_out y = message_key_out z → y = z := fun y z h => congrArg (fun o => dBool (avD (nthA 0 (Out.res o)))) h
def message_Props_out : (Int) → Out := fun r => .ret [.d (.int .i64 r)] [] []
theorem message_Props_inj : ∀ y z, message_Props_out y = message_Props_out z → y = z := fun y z h => congrArg (fun o => dInt (avD (nthA 0 (Out.res o)))) h
def message_Check_out : (Int) → Out := fun r => .ret [.d (.int .i64 r)] [] []
theorem message_Check_inj : ∀ y z, message_Check_out y = message_Check_out z → y = z := fun y z h => congrArg (fun o => dInt (avD (nthA 0 (Out.res o)))) h
def packet_connect_out : (Int) → Out := fun r => .ret [.d (.int .i64 r)] [] []
theorem packet_connect_inj : ∀ y z, packet_connect_out y = packet_connect_out z → y = z := fun y z h => congrArg (fun o => dInt (avD (nthA 0 (Out.res o)))) h
def packet_code_out : (Bool) → Out := fun r => .ret [.d (.bool r)] [] []
theorem packet_code_inj : ∀ y z, packet_code_out y = packet_code_out z → y = z := fun y z h => congrArg (fun o => dBool (avD (nthA 0 (Out.res o)))) h
def packet_ident_out : (Int) → Out := fun r => .ret [.d (.int .i64 r)] [] []
theorem packet_ident_inj : ∀ y z, packet_ident_out y = packet_ident_out z → y = z := fun y z h => congrArg (fun o => dInt (avD (nthA 0 (Out.res o)))) h
def packet_publish_out : (Int) → Out := fun r => .ret [.d (.int .i64 r)] [] []
theorem packet_publish_inj : ∀ y z, packet_publish_out y = packet_publish_out z → y = z := fun y z h => congrArg (fun o => dInt (avD (nthA 0 (Out.res o)))) h
def packet_counted_out : (Int) → Out := fun r => .ret [.d (.int .i64 r)] [] []
theorem packet_counted_inj : ∀ y z, packet_counted_out y = packet_counted_out z → y = z := fun y z h => congrArg (fun o => dInt (avD (nthA 0 (Out.res o)))) h
def stringslite_HasPrefix_out : (Bool) → Out := fun r => .ret [.d (.bool r)] [] []
theorem stringslite_HasPrefix_inj : ∀ y z, stringslite_HasPrefix_out y = stringslite_HasPrefix_out z → y = z := fun y z h => congrArg (fun o => dBool (avD (nthA 0 (Out.res o)))) h
def stringslite_CutPrefix_out : (Str × Bool) → Out := fun r => .ret [.d (.str r.1), .d (.bool r.2)] [] []
theorem stringslite_CutPrefix_inj : ∀ y z, stringslite_CutPrefix_out y = stringslite_CutPrefix_out z → y = z := fun y z h => Prod.ext (congrArg (fun o => dStr (avD (nthA 0 (Out.res o)))) h) (congrArg (fun o => dBool (avD (nthA 1 (Out.res o)))) h)
def strings_CutPrefix_out : (Str × Bool) → Out := fun r => .ret [.d (.str r.1), .d (.bool r.2)] [] []
theorem strings_CutPrefix_inj : ∀ y z, strings_CutPrefix_out y = strings_CutPrefix_out z → y = z := fun y z h => Prod.ext (congrArg (fun o => dStr (avD (nthA 0 (Out.res o)))) h) (congrArg (fun o => dBool (avD (nthA 1 (Out.res o)))) h)
def stringslite_IndexByte_out : (Int) → Out := fun r => .ret [.d (.int .i64 r)] [] []
theorem stringslite_IndexByte_inj : ∀ y z, stringslite_IndexByte_out y = stringslite_IndexByte_out z → y = z := fun y z h => congrArg (fun o => dInt (avD (nthA 0 (Out.res o)))) h
def stringslite_Index_out : (Int) → Out := fun r => .ret [.d (.int .i64 r)] [] []
theorem stringslite_Index_inj : ∀ y z, stringslite_Index_out y = stringslite_Index_out z → y = z := fun y z h => congrArg (fun o => dInt (avD (nthA 0 (Out.res o)))) h
def stringslite_Cut_out : (Str × Str × Bool) → Out := fun r => .ret [.d (.str r.1), .d (.str r.2.1), .d (.bool r.2.2)] [] []
theorem stringslite_Cut_inj : ∀ y z, stringslite_Cut_out y = stringslite_Cut_out z → y = z := fun y z h => Prod.ext (congrArg (fun o => dStr (avD (nthA 0 (Out.res o)))) h) (Prod.ext (congrArg (fun o => dStr (avD (nthA 1 (Out.res o)))) h) (congrArg (fun o => dBool (avD (nthA 2 (Out.res o)))) h))
def strings_Cut_out : (Str × Str × Bool) → Out := fun r => .ret [.d (.str r.1), .d (.str r.2.1), .d (.bool r.2.2)] [] []
theorem strings_Cut_inj : ∀ y z, strings_Cut_out y = strings_Cut_out z → y = z := fun y z h => Prod.ext (congrArg (fun o => dStr (avD (nthA 0 (Out.res o)))) h) (Prod.ext (congrArg (fun o => dStr (avD (nthA 1 (Out.res o)))) h) (congrArg (fun o => dBool (avD (nthA 2 (Out.res o)))) h))
def strings_Index_out : (Int) → Out := fun r => .ret [.d (.int .i64 r)] [] []
theorem strings_Index_inj : ∀ y z, strings_Index_out y = strings_Index_out z → y = z := fun y z h => congrArg (fun o => dInt (avD (nthA 0 (Out.res o)))) h
def strings_Count_out : (Int) → Out := fun r => .ret [.d (.int .i64 r)] [] []
theorem strings_Count_inj : ∀ y z, strings_Count_out y = strings_Count_out z → y = z := fun y z h => congrArg (fun o => dInt (avD (nthA 0 (Out.res o)))) h
def strings_genSplit_out : ((List Str)) → Out := fun r => .ret [.d (.sl [.str] (List.map encS r))] [] []
theorem strings_genSplit_inj : ∀ y z, strings_genSplit_out y = strings_genSplit_out z → y = z := fun y z h => map_inj encS_inj (congrArg (fun o => dSl (avD (nthA 0 (Out.res o)))) h)
def strings_Split_out : ((List Str)) → Out := fun r => .ret [.d (.sl [.str] (List.map encS r))] [] []
theorem strings_Split_inj : ∀ y z, strings_Split_out y = strings_Split_out z → y = z := fun y z h => map_inj encS_inj (congrArg (fun o => dSl (avD (nthA 0 (Out.res o)))) h)
def topic_Levels_out : ((List Str)) → Out := fun r => .ret [.d (.sl [.str] (List.map encS r))] [] []
theorem topic_Levels_inj : ∀ y z, topic_Levels_out y = topic_Levels_out z → y = z := fun y z h => map_inj encS_inj (congrArg (fun o => dSl (avD (nthA 0 (Out.res o)))) h)
def topic_Filter_out : (Bool) → Out := fun r => .ret [.d (.bool r)] [] []
theorem topic_Filter_inj : ∀ y z, topic_Filter_out y = topic_Filter_out z → y = z := fun y z h => congrArg (fun o => dBool (avD (nthA 0 (Out.res o)))) h
def strings_HasPrefix_out : (Bool) → Out := fun r => .ret [.d (.bool r)] [] []
theorem strings_HasPrefix_inj : ∀ y z, strings_HasPrefix_out y = strings_HasPrefix_out z → y = z := fun y z h => congrArg (fun o => dBool (avD (nthA 0 (Out.res o)))) h
def topic_Shared_out : (Str × Str × Bool) → Out := fun r => .ret [.d (.str r.1), .d (.str r.2.1), .d (.bool r.2.2)] [] []
theorem topic_Shared_inj : ∀ y z, topic_Shared_out y = topic_Shared_out z → y = z := fun y z h => Prod.ext (congrArg (fun o => dStr (avD (nthA 0 (Out.res o)))) h) (Prod.ext (congrArg (fun o => dStr (avD (nthA 1 (Out.res o)))) h) (congrArg (fun o => dBool (avD (nthA 2 (Out.res o)))) h))
def packet_wanted_out : (Bool × Bool) → Out := fun r => .ret [.d (.bool r.1), .d (.bool r.2)] [] []
theorem packet_wanted_inj : ∀ y z, packet_wanted_out y = packet_wanted_out z → y = z := fun y z h => Prod.ext (congrArg (fun o => dBool (avD (nthA 0 (Out.res o)))) h) (congrArg (fun o => dBool (avD (nthA 1 (Out.res o)))) h)
def packet_subscribe_out : (Int) → Out := fun r => .ret [.d (.int .i64 r)] [] []
theorem packet_subscribe_inj : ∀ y z, packet_subscribe_out y = packet_subscribe_out z → y = z := fun y z h => congrArg (fun o => dInt (avD (nthA 0 (Out.res o)))) h
def packet_codes_out : (Int) → Out := fun r => .ret [.d (.int .i64 r)] [] []
theorem packet_codes_inj : ∀ y z, packet_codes_out y = packet_codes_out z → y = z := fun y z h => congrArg (fun o => dInt (avD (nthA 0 (Out.res o)))) h
def packet_unsubscribe_out : (Int) → Out := fun r => .ret [.d (.int .i64 r)] [] []
theorem packet_unsubscribe_inj : ∀ y z, packet_unsubscribe_out y = packet_unsubscribe_out z → y = z := fun y z h => congrArg (fun o => dInt (avD (nthA 0 (Out.res o)))) h
def packet_Check_out : (Int) → Out := fun r => .ret [.d (.int .i64 r)] [] []
theorem packet_Check_inj : ∀ y z, packet_Check_out y = packet_Check_out z → y = z := fun y z h => congrArg (fun o => dInt (avD (nthA 0 (Out.res o)))) h
def cmp_isNaN_int__out : (Bool) → Out := fun r => .ret [.d (.bool r)] [] []
theorem cmp_isNaN_int__inj : ∀ y z, cmp_isNaN_int__out y = cmp_isNaN_int__out z → y = z := fun y z h => congrArg (fun o => dBool (avD (nthA 0 (Out.res o)))) h
def cmp_Less_int__out : (Bool) → Out := fun r => .ret [.d (.bool r)] [] []
theorem cmp_Less_int__inj : ∀ y z, cmp_Less_int__out y = cmp_Less_int__out z → y = z := fun y z h => congrArg (fun o => dBool (avD (nthA 0 (Out.res o)))) h
def slices_isNaN_int__out : (Bool) → Out := fun r => .ret [.d (.bool r)] [] []
theorem slices_isNaN_int__inj : ∀ y z, slices_isNaN_int__out y = slices_isNaN_int__out z → y = z := fun y z h => congrArg (fun o => dBool (avD (nthA 0 (Out.res o)))) h
def slices_BinarySearch___int_int__out : (Int × Bool) → Out := fun r => .ret [.d (.int .i64 r.1), .d (.bool r.2)] [] []
theorem slices_BinarySearch___int_int__inj : ∀ y z, slices_BinarySearch___int_int__out y = slices_BinarySearch___int_int__out z → y = z := fun y z h => Prod.ext (congrArg (fun o => dInt (avD (nthA 0 (Out.res o)))) h) (congrArg (fun o => dBool (avD (nthA 1 (Out.res o)))) h)
def inbound_Has_out : (Bool) → Out := fun r => .ret [.d (.bool r)] [] []
theorem inbound_Has_inj : ∀ y z, inbound_Has_out y = inbound_Has_out z → y = z := fun y z h => congrArg (fun o => dBool (avD (nthA 0 (Out.res o)))) h
def slices_Clone___int_int__out : ((List Int)) → Out := fun r => .ret [.row 0] [] [⟨[.int .i64], 3, 8, (List.map (encI .i64) r)⟩]
theorem slices_Clone___int_int__inj : ∀ y z, slices_Clone___int_int__out y = slices_Clone___int_int__out z → y = z := fun y z h => map_inj (encI_inj _) (congrArg (fun o => rowX 0 (Out.rws o)) h)
def slices_Insert___int_int__out : ((List Int)) → Out := fun r => .ret [.row 0] [] [⟨[.int .i64], 3, 8, (List.map (encI .i64) r)⟩]
theorem slices_Insert___int_int__inj : ∀ y z, slices_Insert___int_int__out y = slices_Insert___int_int__out z → y = z := fun y z h => map_inj (encI_inj _) (congrArg (fun o => rowX 0 (Out.rws o)) h)
def inbound_insert_int__out : ((List Int)) → Out := fun r => .ret [.row 0] [] [⟨[.int .i64], 3, 8, (List.map (encI .i64) r)⟩]
theorem inbound_insert_int__inj : ∀ y z, inbound_insert_int__out y = inbound_insert_int__out z → y = z := fun y z h => map_inj (encI_inj _) (congrArg (fun o => rowX 0 (Out.rws o)) h)
def packet_Answer_out : (api_Packet × Bool) → Out := fun r => .ret [api_Packet.av r.1, .d (.bool r.2)] [] []
theorem packet_Answer_inj : ∀ y z, packet_Answer_out y = packet_Answer_out z → y = z := fun y z h => Prod.ext (api_Packet.inj (congrArg (fun o => List.map avD (cellsOf (nthA 0 (Out.res o)))) h)) (congrArg (fun o => dBool (avD (nthA 1 (Out.res o)))) h)
def inbound_Accept_out : (api_Inbox × Bool × (List api_Packet) × Int) → Out := fun r => .ret [api_Inbox.av r.1, .d (.bool r.2.1), .row 0, .d (.int .i64 r.2.2.2)] [] [⟨api_Packet.ks, 37, 416, (List.map api_Packet.enc r.2.2.1)⟩]
theorem inbound_Accept_inj : ∀ y z, inbound_Accept_out y = inbound_Accept_out z → y = z := fun y z h => Prod.ext (api_Inbox.inj (congrArg (fun o => List.map avD (cellsOf (nthA 0 (Out.res o)))) h)) (Prod.ext (congrArg (fun o => dBool (avD (nthA 1 (Out.res o)))) h) (Prod.ext (map_inj api_Packet.inj (congrArg (fun o => rowX 0 (Out.rws o)) h)) (congrArg (fun o => dInt (avD (nthA 3 (Out.res o)))) h)))
def slices_Delete___int_int__out : ((List Int)) → Out := fun r => .ret [.row 0] [] [⟨[.int .i64], 3, 8, (List.map (encI .i64) r)⟩]
theorem slices_Delete___int_int__inj : ∀ y z, slices_Delete___int_int__out y = slices_Delete___int_int__out z → y = z := fun y z h => map_inj (encI_inj _) (congrArg (fun o => rowX 0 (Out.rws o)) h)
def inbound_without_int__out : ((List Int)) → Out := fun r => .ret [.row 0] [] [⟨[.int .i64], 3, 8, (List.map (encI .i64) r)⟩]
theorem inbound_without_int__inj : ∀ y z, inbound_without_int__out y = inbound_without_int__out z → y = z := fun y z h => map_inj (encI_inj _) (congrArg (fun o => rowX 0 (Out.rws o)) h)
def inbound_Release_out : (api_Inbox × api_Packet × Int) → Out := fun r => .ret [api_Inbox.av r.1, api_Packet.av r.2.1, .d (.int .i64 r.2.2)] [] []
theorem inbound_Release_inj : ∀ y z, inbound_Release_out y = inbound_Release_out z → y = z := fun y z h => Prod.ext (api_Inbox.inj (congrArg (fun o => List.map avD (cellsOf (nthA 0 (Out.res o)))) h)) (Prod.ext (api_Packet.inj (congrArg (fun o => List.map avD (cellsOf (nthA 1 (Out.res o)))) h)) (congrArg (fun o => dInt (avD (nthA 2 (Out.res o)))) h))
def brokerlaw15_awake_out : (Bool) → Out := fun r => .ret [.d (.bool r)] [] []
theorem brokerlaw15_awake_inj : ∀ y z, brokerlaw15_awake_out y = brokerlaw15_awake_out z → y = z := fun y z h => congrArg (fun o => dBool (avD (nthA 0 (Out.res o)))) h
def brokerref13_Check_out : (Int) → Out := fun r => .ret [.d (.int .i64 r)] [] []
theorem brokerref13_Check_inj : ∀ y z, brokerref13_Check_out y = brokerref13_Check_out z → y = z := fun y z h => congrArg (fun o => dInt (avD (nthA 0 (Out.res o)))) h
def brokerref15_Check_out : (Int) → Out := fun r => .ret [.d (.int .i64 r)] [] []
theorem brokerref15_Check_inj : ∀ y z, brokerref15_Check_out y = brokerref15_Check_out z → y = z := fun y z h => congrArg (fun o => dInt (avD (nthA 0 (Out.res o)))) h
def brokerref13_Has_out : (Bool) → Out := fun r => .ret [.d (.bool r)] [] []
theorem brokerref13_Has_inj : ∀ y z, brokerref13_Has_out y = brokerref13_Has_out z → y = z := fun y z h => congrArg (fun o => dBool (avD (nthA 0 (Out.res o)))) h
def brokerref15_Has_out : (Bool) → Out := fun r => .ret [.d (.bool r)] [] []
theorem brokerref15_Has_inj : ∀ y z, brokerref15_Has_out y = brokerref15_Has_out z → y = z := fun y z h => congrArg (fun o => dBool (avD (nthA 0 (Out.res o)))) h
def brokerlaw15_InboundChecks_out : (Bool) → Out := fun r => .ret [.d (.bool r)] [] []
theorem brokerlaw15_InboundChecks_inj : ∀ y z, brokerlaw15_InboundChecks_out y = brokerlaw15_InboundChecks_out z → y = z := fun y z h => congrArg (fun o => dBool (avD (nthA 0 (Out.res o)))) h
def brokerref13_Free_out : (api_Pool × Bool) → Out := fun r => .ret [api_Pool.av r.1, .d (.bool r.2)] [] []
theorem brokerref13_Free_inj : ∀ y z, brokerref13_Free_out y = brokerref13_Free_out z → y = z := fun y z h => Prod.ext (api_Pool.inj (congrArg (fun o => List.map avD (cellsOf (nthA 0 (Out.res o)))) h)) (congrArg (fun o => dBool (avD (nthA 1 (Out.res o)))) h)
def brokerref15_Release_out : (api_Inbox × api_Packet × Int) → Out := fun r => .ret [api_Inbox.av r.1, api_Packet.av r.2.1, .d (.int .i64 r.2.2)] [] []
theorem brokerref15_Release_inj : ∀ y z, brokerref15_Release_out y = brokerref15_Release_out z → y = z := fun y z h => Prod.ext (api_Inbox.inj (congrArg (fun o => List.map avD (cellsOf (nthA 0 (Out.res o)))) h)) (Prod.ext (api_Packet.inj (congrArg (fun o => List.map avD (cellsOf (nthA 1 (Out.res o)))) h)) (congrArg (fun o => dInt (avD (nthA 2 (Out.res o)))) h))
def brokerref13_Ints_out : (Bool) → Out := fun r => .ret [.d (.bool r)] [] []
theorem brokerref13_Ints_inj : ∀ y z, brokerref13_Ints_out y = brokerref13_Ints_out z → y = z := fun y z h => congrArg (fun o => dBool (avD (nthA 0 (Out.res o)))) h
def brokerref15_Same_out : (Bool) → Out := fun r => .ret [.d (.bool r)] [] []
theorem brokerref15_Same_inj : ∀ y z, brokerref15_Same_out y = brokerref15_Same_out z → y = z := fun y z h => congrArg (fun o => dBool (avD (nthA 0 (Out.res o)))) h
def brokerref05_SameProps_out : (Bool) → Out := fun r => .ret [.d (.bool r)] [] []
theorem brokerref05_SameProps_inj : ∀ y z, brokerref05_SameProps_out y = brokerref05_SameProps_out z → y = z := fun y z h => congrArg (fun o => dBool (avD (nthA 0 (Out.res o)))) h
def brokerref05_Same_out : (Bool) → Out := fun r => .ret [.d (.bool r)] [] []
theorem brokerref05_Same_inj : ∀ y z, brokerref05_Same_out y = brokerref05_Same_out z → y = z := fun y z h => congrArg (fun o => dBool (avD (nthA 0 (Out.res o)))) h
def brokerref06_SameWill_out : (Bool) → Out := fun r => .ret [.d (.bool r)] [] []
theorem brokerref06_SameWill_inj : ∀ y z, brokerref06_SameWill_out y = brokerref06_SameWill_out z → y = z := fun y z h => congrArg (fun o => dBool (avD (nthA 0 (Out.res o)))) h
def brokerref06_SameSubs_out : (Bool) → Out := fun r => .ret [.d (.bool r)] [] []
theorem brokerref06_SameSubs_inj : ∀ y z, brokerref06_SameSubs_out y = brokerref06_SameSubs_out z → y = z := fun y z h => congrArg (fun o => dBool (avD (nthA 0 (Out.res o)))) h
def brokerref01_Same_out : (Bool) → Out := fun r => .ret [.d (.bool r)] [] []
theorem brokerref01_Same_inj : ∀ y z, brokerref01_Same_out y = brokerref01_Same_out z → y = z := fun y z h => congrArg (fun o => dBool (avD (nthA 0 (Out.res o)))) h
def brokerref06_SameNumbers_out : (Bool) → Out := fun r => .ret [.d (.bool r)] [] []
theorem brokerref06_SameNumbers_inj : ∀ y z, brokerref06_SameNumbers_out y = brokerref06_SameNumbers_out z → y = z := fun y z h => congrArg (fun o => dBool (avD (nthA 0 (Out.res o)))) h
def brokerref06_Same_out : (Bool) → Out := fun r => .ret [.d (.bool r)] [] []
theorem brokerref06_Same_inj : ∀ y z, brokerref06_Same_out y = brokerref06_Same_out z → y = z := fun y z h => congrArg (fun o => dBool (avD (nthA 0 (Out.res o)))) h
def brokerlaw15_InboundReleases_out : (Bool) → Out := fun r => .ret [.d (.bool r)] [] []
theorem brokerlaw15_InboundReleases_inj : ∀ y z, brokerlaw15_InboundReleases_out y = brokerlaw15_InboundReleases_out z → y = z := fun y z h => congrArg (fun o => dBool (avD (nthA 0 (Out.res o)))) h
def good : FuncId → Out → Prop := fun f o => match f with | 5 => ∃ x, inbound_Check_out x = o | 34 => ∃ x, packet_is_out x = o | 36 => ∃ x, packet_used_out x = o | 46 => ∃ x, packet_plainOf_out x = o | 47 => ∃ x, message_Same_out x = o | 48 => ∃ x, packet_subs_out x = o | 49 => ∃ x, packet_texts_out x = o | 50 => ∃ x, packet_numbers_out x = o | 35 => ∃ x, packet_Same_out x = o | 51 => ∃ x, topic_Name_out x = o | 64 => ∃ x, topic_sized_out x = o | 57 => ∃ x, topic_Valid_out x = o | 58 => ∃ x, message_is_out x = o | 65 => ∃ x, message_key_out x = o | 59 => ∃ x, message_Props_out x = o | 52 => ∃ x, message_Check_out x = o | 37 => ∃ x, packet_connect_out x = o | 38 => ∃ x, packet_code_out x = o | 40 => ∃ x, packet_ident_out x = o | 39 => ∃ x, packet_publish_out x = o | 53 => ∃ x, packet_counted_out x = o | 69 => ∃ x, stringslite_HasPrefix_out x = o | 71 => ∃ x, stringslite_CutPrefix_out x = o | 66 => ∃ x, strings_CutPrefix_out x = o | 76 => ∃ x, stringslite_IndexByte_out x = o | 74 => ∃ x, stringslite_Index_out x = o | 72 => ∃ x, stringslite_Cut_out x = o | 67 => ∃ x, strings_Cut_out x = o | 82 => ∃ x, strings_Index_out x = o | 81 => ∃ x, strings_Count_out x = o | 75 => ∃ x, strings_genSplit_out x = o | 73 => ∃ x, strings_Split_out x = o | 68 => ∃ x, topic_Levels_out x = o | 61 => ∃ x, topic_Filter_out x = o | 62 => ∃ x, strings_HasPrefix_out x = o | 60 => ∃ x, topic_Shared_out x = o | 54 => ∃ x, packet_wanted_out x = o | 41 => ∃ x, packet_subscribe_out x = o | 42 => ∃ x, packet_codes_out x = o | 43 => ∃ x, packet_unsubscribe_out x = o | 26 => ∃ x, packet_Check_out x = o | 45 => ∃ x, cmp_isNaN_int__out x = o | 30 => ∃ x, cmp_Less_int__out x = o | 31 => ∃ x, slices_isNaN_int__out x = o | 16 => ∃ x, slices_BinarySearch___int_int__out x = o | 8 => ∃ x, inbound_Has_out x = o | 27 => ∃ x, slices_Clone___int_int__out x = o | 44 => ∃ x, slices_Insert___int_int__out x = o | 28 => ∃ x, inbound_insert_int__out x = o | 29 => ∃ x, packet_Answer_out x = o | 14 => ∃ x, inbound_Accept_out x = o | 32 => ∃ x, slices_Delete___int_int__out x = o | 18 => ∃ x, inbound_without_int__out x = o | 10 => ∃ x, inbound_Release_out x = o | 6 => ∃ x, brokerlaw15_awake_out x = o | 15 => ∃ x, brokerref13_Check_out x = o | 7 => ∃ x, brokerref15_Check_out x = o | 17 => ∃ x, brokerref13_Has_out x = o | 9 => ∃ x, brokerref15_Has_out x = o | 3 => ∃ x, brokerlaw15_InboundChecks_out x = o | 19 => ∃ x, brokerref13_Free_out x = o | 11 => ∃ x, brokerref15_Release_out x = o | 20 => ∃ x, brokerref13_Ints_out x = o | 12 => ∃ x, brokerref15_Same_out x = o | 33 => ∃ x, brokerref05_SameProps_out x = o | 21 => ∃ x, brokerref05_Same_out x = o | 22 => ∃ x, brokerref06_SameWill_out x = o | 23 => ∃ x, brokerref06_SameSubs_out x = o | 24 => ∃ x, brokerref01_Same_out x = o | 25 => ∃ x, brokerref06_SameNumbers_out x = o | 13 => ∃ x, brokerref06_Same_out x = o | 4 => ∃ x, brokerlaw15_InboundReleases_out x = o | _ => False
end Te
end PX
