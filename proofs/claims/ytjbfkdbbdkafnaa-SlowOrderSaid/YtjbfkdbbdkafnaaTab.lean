import Derived.Test.YtjbfkdbbdkafnaaMod
import Derived.Test.YtjbfkdbbdkafnaaProg
set_option linter.unusedVariables false
set_option linter.unusedSimpArgs false
set_option linter.unusedVariables false
set_option linter.unusedSimpArgs false
noncomputable section
namespace PX
open Go
open Md
namespace Te
def tyL : List (Nat × TI) := [(3, ⟨[.int .i64], false, 8, [], 0⟩),
  (4, ⟨[.bool], false, 1, [], 0⟩),
  (5, ⟨[.int .u8], false, 1, [], 0⟩),
  (9, ⟨[.str], false, 16, [], 0⟩),
  (22, ⟨[.sl [.str, .str, .int .i64, .bool, .int .i64, .int .i64, .str, .int .i64, .sl [.str, .str]]], false, 24, [], 25⟩),
  (23, ⟨[.sl [.str, .str]], false, 24, [], 48⟩),
  (25, ⟨[.str, .str, .int .i64, .bool, .int .i64, .int .i64, .str, .int .i64, .sl [.str, .str]], true, 112, [(0, 9), (1, 9), (2, 3), (3, 4), (4, 3), (5, 3), (6, 9), (7, 3), (8, 23)], 0⟩),
  (37, ⟨[.sl [.int .i64]], false, 24, [], 3⟩),
  (39, ⟨[.sl [.bool]], false, 24, [], 4⟩),
  (48, ⟨[.str, .str], true, 32, [(0, 9), (1, 9)], 0⟩)]
def fnL : List (Nat × Func) := [(9, Go.Proofs.Try.f9), (23, Go.Proofs.Try.f23), (22, Go.Proofs.Try.f22), (11, Go.Proofs.Try.f11), (24, Go.Proofs.Try.f24), (14, Go.Proofs.Try.f14), (26, Go.Proofs.Try.f26), (16, Go.Proofs.Try.f16), (13, Go.Proofs.Try.f13), (17, Go.Proofs.Try.f17), (10, Go.Proofs.Try.f10), (12, Go.Proofs.Try.f12), (3, Go.Proofs.Try.f3), (25, Go.Proofs.Try.f25), (15, Go.Proofs.Try.f15), (4, Go.Proofs.Try.f4), (18, Go.Proofs.Try.f18), (5, Go.Proofs.Try.f5), (19, Go.Proofs.Try.f19), (6, Go.Proofs.Try.f6), (7, Go.Proofs.Try.f7), (20, Go.Proofs.Try.f20), (21, Go.Proofs.Try.f21), (8, Go.Proofs.Try.f8)]
def tmL : List (Nat × (List Sh × List (TypeId × List Sh))) := [(9, ([.bool], [])),
  (23, ([api_Message.sh], [])),
  (22, ([.row 0 api_Message.ks 25 112], [])),
  (11, ([.row 0 api_Message.ks 25 112, .row 1 api_Message.ks 25 112, .bool], [])),
  (24, ([.bool], [])),
  (14, ([api_Message.sh, .bool, .sl api_Message.ks, .sl api_Message.ks], [])),
  (26, ([.bool], [])),
  (16, ([.bool], [])),
  (13, ([.bool], [])),
  (17, ([.int .i64], [])),
  (10, ([.bool], [])),
  (12, ([.sl api_Message.ks, .row 0 api_Message.ks 25 112, .bool], [])),
  (3, ([.bool], [])),
  (25, ([.bool], [])),
  (15, ([api_Message.sh, .bool, .sl api_Message.ks, .sl api_Message.ks], [])),
  (4, ([.bool], [])),
  (18, ([.int .i64], [])),
  (5, ([.bool], [])),
  (19, ([.row 0 api_Message.ks 25 112], [])),
  (6, ([.bool], [])),
  (7, ([.bool], [])),
  (20, ([.row 0 api_Message.ks 25 112, .row 1 api_Message.ks 25 112], [])),
  (21, ([.row 0 api_Message.ks 25 112, .row 1 api_Message.ks 25 112], [])),
  (8, ([.bool], []))]
def mvL : List (Nat × Bool) := []
def hlL : List (Nat × List (Nat × Hint)) := [(22, [(3, ⟨[(5, .row 3005 api_Message.ks 25 112), (13, .sl api_Message.ks), (14, .int .i64), (15, .int .i64)], [], []⟩)]),
  (14, [(3, ⟨[(1, .int .i64), (4, .ptr 1000000000 0), (8, .row 3008 api_Message.ks 25 112), (13, .row 3008 api_Message.ks 25 112), (14, .int .i64), (15, .int .i64)], [(25, api_Message.shs)], []⟩)]),
  (26, [(4, ⟨[(0, .sl api_Prop.ks), (1, .sl api_Prop.ks), (5, .int .i64)], [], []⟩)]),
  (13, [(4, ⟨[(0, .sl api_Message.ks), (1, .sl api_Message.ks), (5, .int .i64)], [], []⟩)]),
  (17, [(3, ⟨[(3, .int .i64), (6, .sl api_Message.ks), (7, .int .i64), (8, .int .i64)], [], []⟩)]),
  (15, [(2, ⟨[(0, .sl api_Message.ks), (1, .int .i64), (4, .ptr 1000000000 0), (8, .int .i64)], [(25, api_Message.shs)], []⟩)]),
  (18, [(3, ⟨[(0, .sl api_Message.ks), (3, .int .i64), (4, .int .i64)], [], []⟩)]),
  (19, [(3, ⟨[(0, .int .i64), (3, .row 3003 api_Message.ks 25 112), (4, .int .i64)], [], []⟩)]),
  (6, [(4, ⟨[(1, .int .i64), (2, .sl [.int .i64]), (7, .row 3007 api_Message.ks 25 112), (8, .row 3008 api_Message.ks 25 112), (9, .row 3009 api_Message.ks 25 112), (10, .int .i64)], [], []⟩), (18, ⟨[(1, .int .i64), (2, .sl [.int .i64]), (7, .row 3007 api_Message.ks 25 112), (8, .row 3008 api_Message.ks 25 112), (9, .row 3009 api_Message.ks 25 112), (15, .row 3015 [.bool] 4 1), (16, .int .i64)], [], []⟩), (24, ⟨[(1, .int .i64), (2, .sl [.int .i64]), (7, .row 3007 api_Message.ks 25 112), (8, .row 3008 api_Message.ks 25 112), (9, .row 3009 api_Message.ks 25 112), (15, .row 3015 [.bool] 4 1), (17, .int .i64)], [], []⟩)]),
  (20, [(3, ⟨[(1, .int .i64), (6, .row 3006 api_Message.ks 25 112), (7, .row 3007 api_Message.ks 25 112), (10, .sl api_Message.ks), (11, .int .i64), (12, .int .i64)], [], []⟩)]),
  (21, [(3, ⟨[(0, .sl api_Message.ks), (1, .int .i64), (6, .row 3006 api_Message.ks 25 112), (7, .row 3007 api_Message.ks 25 112), (8, .int .i64)], [], []⟩)])]
def hrL : List (Nat × List (Nat × Hint)) := [(11, [(6, ⟨[(5, .ptr 1000000000 0), (11, .row 3011 api_Message.ks 25 112)], [(25, api_Message.shs)], []⟩)]),
  (12, [(5, ⟨[(0, .sl api_Message.ks), (3, .int .i64), (5, .ptr 1000000000 0)], [(25, api_Message.shs)], []⟩)]),
  (4, [(7, ⟨[(0, .sl api_Message.ks), (5, .ptr 1000000000 0), (6, .bool), (7, .sl api_Message.ks), (8, .sl api_Message.ks)], [(25, api_Message.shs)], []⟩), (10, ⟨[(0, .sl api_Message.ks), (7, .sl api_Message.ks), (13, .row 3013 api_Message.ks 25 112)], [], []⟩)]),
  (5, [(3, ⟨[(0, .sl api_Message.ks), (1, .sl api_Message.ks)], [], []⟩)]),
  (6, [(9, ⟨[(1, .int .i64), (2, .sl [.int .i64]), (7, .row 3007 api_Message.ks 25 112), (8, .row 3008 api_Message.ks 25 112), (9, .row 3009 api_Message.ks 25 112), (10, .int .i64), (11, .int .i64)], [], []⟩), (16, ⟨[(1, .int .i64), (2, .sl [.int .i64]), (7, .row 3007 api_Message.ks 25 112), (8, .row 3008 api_Message.ks 25 112), (9, .row 3009 api_Message.ks 25 112)], [], []⟩), (31, ⟨[(1, .int .i64), (2, .sl [.int .i64]), (7, .row 3007 api_Message.ks 25 112), (8, .row 3008 api_Message.ks 25 112)], [], []⟩), (34, ⟨[(2, .sl [.int .i64]), (7, .row 3007 api_Message.ks 25 112), (8, .row 3008 api_Message.ks 25 112), (18, .int .i64)], [], []⟩)])]
def eqL : List (Nat × List CK) := [(48, [.str, .str])]
def prL : List (Nat × Prim) := []
def SE : Env := { fn := assoc fnL, ty := assoc tyL, tm := assoc tmL, mv := fun f => match assoc mvL f with | some b => b | none => false, eqt := assoc eqL, pv := fun _ => none, hl := fun f r => match assoc hlL f with | some l => assoc l r | none => none, hr := fun f r => match assoc hrL f with | some l => assoc l r | none => none, prim := assoc prL }
def brokerlaw17_few_out : (Bool) → Out := fun r => .ret [.d (.bool r)] [] []
theorem brokerlaw17_few_inj : ∀ y z, brokerlaw17_few_out y = brokerlaw17_few_out z → y = z := fun y z h => congrArg (fun o => dBool (avD (nthA 0 (Out.res o)))) h
def slow_copied_out : (api_Message) → Out := fun r => .ret [api_Message.av r] [] []
theorem slow_copied_inj : ∀ y z, slow_copied_out y = slow_copied_out z → y = z := fun y z h => api_Message.inj (congrArg (fun o => List.map avD (cellsOf (nthA 0 (Out.res o)))) h)
def slow_clone_out : ((List api_Message)) → Out := fun r => .ret [.row 0] [] [⟨api_Message.ks, 25, 112, (List.map api_Message.enc r)⟩]
theorem slow_clone_inj : ∀ y z, slow_clone_out y = slow_clone_out z → y = z := fun y z h => map_inj api_Message.inj (congrArg (fun o => rowX 0 (Out.rws o)) h)
def slow_Push_out : ((List api_Message) × (List api_Message) × Bool) → Out := fun r => .ret [.row 0, .row 1, .d (.bool r.2.2)] [] [⟨api_Message.ks, 25, 112, (List.map api_Message.enc r.1)⟩, ⟨api_Message.ks, 25, 112, (List.map api_Message.enc r.2.1)⟩]
theorem slow_Push_inj : ∀ y z, slow_Push_out y = slow_Push_out z → y = z := fun y z h => Prod.ext (map_inj api_Message.inj (congrArg (fun o => rowX 0 (Out.rws o)) h)) (Prod.ext (map_inj api_Message.inj (congrArg (fun o => rowX 1 (Out.rws o)) h)) (congrArg (fun o => dBool (avD (nthA 2 (Out.res o)))) h))
def message_Expired_out : (Bool) → Out := fun r => .ret [.d (.bool r)] [] []
theorem message_Expired_inj : ∀ y z, message_Expired_out y = message_Expired_out z → y = z := fun y z h => congrArg (fun o => dBool (avD (nthA 0 (Out.res o)))) h
def slow_Pop_out : (api_Message × Bool × (List api_Message) × (List api_Message)) → Out := fun r => .ret [api_Message.av r.1, .d (.bool r.2.1), .d (.sl api_Message.ks (List.map api_Message.enc r.2.2.1)), .d (.sl api_Message.ks (List.map api_Message.enc r.2.2.2))] [] []
theorem slow_Pop_inj : ∀ y z, slow_Pop_out y = slow_Pop_out z → y = z := fun y z h => Prod.ext (api_Message.inj (congrArg (fun o => List.map avD (cellsOf (nthA 0 (Out.res o)))) h)) (Prod.ext (congrArg (fun o => dBool (avD (nthA 1 (Out.res o)))) h) (Prod.ext (map_inj api_Message.inj (congrArg (fun o => dSl (avD (nthA 2 (Out.res o)))) h)) (map_inj api_Message.inj (congrArg (fun o => dSl (avD (nthA 3 (Out.res o)))) h))))
def brokerref05_SameProps_out : (Bool) → Out := fun r => .ret [.d (.bool r)] [] []
theorem brokerref05_SameProps_inj : ∀ y z, brokerref05_SameProps_out y = brokerref05_SameProps_out z → y = z := fun y z h => congrArg (fun o => dBool (avD (nthA 0 (Out.res o)))) h
def brokerref05_Same_out : (Bool) → Out := fun r => .ret [.d (.bool r)] [] []
theorem brokerref05_Same_inj : ∀ y z, brokerref05_Same_out y = brokerref05_Same_out z → y = z := fun y z h => congrArg (fun o => dBool (avD (nthA 0 (Out.res o)))) h
def brokerref17_Same_out : (Bool) → Out := fun r => .ret [.d (.bool r)] [] []
theorem brokerref17_Same_inj : ∀ y z, brokerref17_Same_out y = brokerref17_Same_out z → y = z := fun y z h => congrArg (fun o => dBool (avD (nthA 0 (Out.res o)))) h
def slow_Bytes_out : (Int) → Out := fun r => .ret [.d (.int .i64 r)] [] []
theorem slow_Bytes_inj : ∀ y z, slow_Bytes_out y = slow_Bytes_out z → y = z := fun y z h => congrArg (fun o => dInt (avD (nthA 0 (Out.res o)))) h
def brokerlaw17_awake_out : (Bool) → Out := fun r => .ret [.d (.bool r)] [] []
theorem brokerlaw17_awake_inj : ∀ y z, brokerlaw17_awake_out y = brokerlaw17_awake_out z → y = z := fun y z h => congrArg (fun o => dBool (avD (nthA 0 (Out.res o)))) h
def brokerref17_Push_out : ((List api_Message) × (List api_Message) × Bool) → Out := fun r => .ret [.d (.sl api_Message.ks (List.map api_Message.enc r.1)), .row 0, .d (.bool r.2.2)] [] [⟨api_Message.ks, 25, 112, (List.map api_Message.enc r.2.1)⟩]
theorem brokerref17_Push_inj : ∀ y z, brokerref17_Push_out y = brokerref17_Push_out z → y = z := fun y z h => Prod.ext (map_inj api_Message.inj (congrArg (fun o => dSl (avD (nthA 0 (Out.res o)))) h)) (Prod.ext (map_inj api_Message.inj (congrArg (fun o => rowX 0 (Out.rws o)) h)) (congrArg (fun o => dBool (avD (nthA 2 (Out.res o)))) h))
def brokerlaw17_SlowPushes_out : (Bool) → Out := fun r => .ret [.d (.bool r)] [] []
theorem brokerlaw17_SlowPushes_inj : ∀ y z, brokerlaw17_SlowPushes_out y = brokerlaw17_SlowPushes_out z → y = z := fun y z h => congrArg (fun o => dBool (avD (nthA 0 (Out.res o)))) h
def brokerref05_Expired_out : (Bool) → Out := fun r => .ret [.d (.bool r)] [] []
theorem brokerref05_Expired_inj : ∀ y z, brokerref05_Expired_out y = brokerref05_Expired_out z → y = z := fun y z h => congrArg (fun o => dBool (avD (nthA 0 (Out.res o)))) h
def brokerref17_Pop_out : (api_Message × Bool × (List api_Message) × (List api_Message)) → Out := fun r => .ret [api_Message.av r.1, .d (.bool r.2.1), .d (.sl api_Message.ks (List.map api_Message.enc r.2.2.1)), .d (.sl api_Message.ks (List.map api_Message.enc r.2.2.2))] [] []
theorem brokerref17_Pop_inj : ∀ y z, brokerref17_Pop_out y = brokerref17_Pop_out z → y = z := fun y z h => Prod.ext (api_Message.inj (congrArg (fun o => List.map avD (cellsOf (nthA 0 (Out.res o)))) h)) (Prod.ext (congrArg (fun o => dBool (avD (nthA 1 (Out.res o)))) h) (Prod.ext (map_inj api_Message.inj (congrArg (fun o => dSl (avD (nthA 2 (Out.res o)))) h)) (map_inj api_Message.inj (congrArg (fun o => dSl (avD (nthA 3 (Out.res o)))) h))))
def brokerlaw17_SlowPops_out : (Bool) → Out := fun r => .ret [.d (.bool r)] [] []
theorem brokerlaw17_SlowPops_inj : ∀ y z, brokerlaw17_SlowPops_out y = brokerlaw17_SlowPops_out z → y = z := fun y z h => congrArg (fun o => dBool (avD (nthA 0 (Out.res o)))) h
def brokerref17_Bytes_out : (Int) → Out := fun r => .ret [.d (.int .i64 r)] [] []
theorem brokerref17_Bytes_inj : ∀ y z, brokerref17_Bytes_out y = brokerref17_Bytes_out z → y = z := fun y z h => congrArg (fun o => dInt (avD (nthA 0 (Out.res o)))) h
def brokerlaw17_SlowBytes_out : (Bool) → Out := fun r => .ret [.d (.bool r)] [] []
theorem brokerlaw17_SlowBytes_inj : ∀ y z, brokerlaw17_SlowBytes_out y = brokerlaw17_SlowBytes_out z → y = z := fun y z h => congrArg (fun o => dBool (avD (nthA 0 (Out.res o)))) h
def brokerlaw17_numbered_out : ((List api_Message)) → Out := fun r => .ret [.row 0] [] [⟨api_Message.ks, 25, 112, (List.map api_Message.enc r)⟩]
theorem brokerlaw17_numbered_inj : ∀ y z, brokerlaw17_numbered_out y = brokerlaw17_numbered_out z → y = z := fun y z h => map_inj api_Message.inj (congrArg (fun o => rowX 0 (Out.rws o)) h)
def brokerlaw17_SlowOrder_out : (Bool) → Out := fun r => .ret [.d (.bool r)] [] []
theorem brokerlaw17_SlowOrder_inj : ∀ y z, brokerlaw17_SlowOrder_out y = brokerlaw17_SlowOrder_out z → y = z := fun y z h => congrArg (fun o => dBool (avD (nthA 0 (Out.res o)))) h
def brokerlaw17_SlowEvicts_out : (Bool) → Out := fun r => .ret [.d (.bool r)] [] []
theorem brokerlaw17_SlowEvicts_inj : ∀ y z, brokerlaw17_SlowEvicts_out y = brokerlaw17_SlowEvicts_out z → y = z := fun y z h => congrArg (fun o => dBool (avD (nthA 0 (Out.res o)))) h
def slow_Expire_out : ((List api_Message) × (List api_Message)) → Out := fun r => .ret [.row 0, .row 1] [] [⟨api_Message.ks, 25, 112, (List.map api_Message.enc r.1)⟩, ⟨api_Message.ks, 25, 112, (List.map api_Message.enc r.2)⟩]
theorem slow_Expire_inj : ∀ y z, slow_Expire_out y = slow_Expire_out z → y = z := fun y z h => Prod.ext (map_inj api_Message.inj (congrArg (fun o => rowX 0 (Out.rws o)) h)) (map_inj api_Message.inj (congrArg (fun o => rowX 1 (Out.rws o)) h))
def brokerref17_Expire_out : ((List api_Message) × (List api_Message)) → Out := fun r => .ret [.row 0, .row 1] [] [⟨api_Message.ks, 25, 112, (List.map api_Message.enc r.1)⟩, ⟨api_Message.ks, 25, 112, (List.map api_Message.enc r.2)⟩]
theorem brokerref17_Expire_inj : ∀ y z, brokerref17_Expire_out y = brokerref17_Expire_out z → y = z := fun y z h => Prod.ext (map_inj api_Message.inj (congrArg (fun o => rowX 0 (Out.rws o)) h)) (map_inj api_Message.inj (congrArg (fun o => rowX 1 (Out.rws o)) h))
def brokerlaw17_SlowExpires_out : (Bool) → Out := fun r => .ret [.d (.bool r)] [] []
theorem brokerlaw17_SlowExpires_inj : ∀ y z, brokerlaw17_SlowExpires_out y = brokerlaw17_SlowExpires_out z → y = z := fun y z h => congrArg (fun o => dBool (avD (nthA 0 (Out.res o)))) h
def good : FuncId → Out → Prop := fun f o => match f with | 9 => ∃ x, brokerlaw17_few_out x = o | 23 => ∃ x, slow_copied_out x = o | 22 => ∃ x, slow_clone_out x = o | 11 => ∃ x, slow_Push_out x = o | 24 => ∃ x, message_Expired_out x = o | 14 => ∃ x, slow_Pop_out x = o | 26 => ∃ x, brokerref05_SameProps_out x = o | 16 => ∃ x, brokerref05_Same_out x = o | 13 => ∃ x, brokerref17_Same_out x = o | 17 => ∃ x, slow_Bytes_out x = o | 10 => ∃ x, brokerlaw17_awake_out x = o | 12 => ∃ x, brokerref17_Push_out x = o | 3 => ∃ x, brokerlaw17_SlowPushes_out x = o | 25 => ∃ x, brokerref05_Expired_out x = o | 15 => ∃ x, brokerref17_Pop_out x = o | 4 => ∃ x, brokerlaw17_SlowPops_out x = o | 18 => ∃ x, brokerref17_Bytes_out x = o | 5 => ∃ x, brokerlaw17_SlowBytes_out x = o | 19 => ∃ x, brokerlaw17_numbered_out x = o | 6 => ∃ x, brokerlaw17_SlowOrder_out x = o | 7 => ∃ x, brokerlaw17_SlowEvicts_out x = o | 20 => ∃ x, slow_Expire_out x = o | 21 => ∃ x, brokerref17_Expire_out x = o | 8 => ∃ x, brokerlaw17_SlowExpires_out x = o | _ => False
end Te
end PX
