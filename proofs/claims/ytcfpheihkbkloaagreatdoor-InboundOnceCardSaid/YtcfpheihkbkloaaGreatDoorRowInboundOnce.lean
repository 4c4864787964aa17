/- The Go function InboundOnce returns true for every input, and each argument reads afterwards as it read before; conditions: those of the given row, no others. -/
import Derived.Test.YtcfpheihkbkloaaGreatDoorEnv
import Derived.Test.YtcfpheihkbkloaaGreatDoorLawInboundOnce
import Derived.Test.YtcfpheihkbkloaaGreatDoorRows
import Derived.WalkKit
import Derived.ProofKit
import Derived.OpenShut
import Derived.JoinedCond
import Derived.Deep.DeepHandedRow
import Derived.Lib.LaidTab
import Derived.Test.YtcfpheihkbkloaaGreatDoorCards
import Derived.Test.YtcfpheihkbkloaaGreatDoorTie
set_option linter.unusedVariables false
set_option linter.unusedSimpArgs false
set_option maxRecDepth 100000
noncomputable section
namespace PX
open Go Md
namespace Te
theorem brokerlaw15_InboundOnce_call (dss : List (List D)) (h : okArgs [api_Inbox.ks, api_Packet.ks, [.sl api_Packet.ks], [.int .u8]] dss) : callW SE 5 (avArgs [true, true, false, false] dss) [] [] = some (.ret [.d (.bool true)] [] []) := by
 obtain ⟨e0, r0, rfl, g0, h⟩ := okArgs_cons h
 obtain ⟨e1, r1, rfl, g1, h⟩ := okArgs_cons h
 obtain ⟨e2, r2, rfl, g2, h⟩ := okArgs_cons h
 obtain ⟨e3, r3, rfl, g3, h⟩ := okArgs_cons h
 obtain rfl := okArgs_nil h
 obtain ⟨p0, rfl⟩ : ∃ p, e0 = api_Inbox.enc p := ⟨_, (api_Inbox.enc_dec _ g0).symm⟩
 obtain ⟨p1, rfl⟩ : ∃ p, e1 = api_Packet.enc p := ⟨_, (api_Packet.enc_dec _ g1).symm⟩
 obtain ⟨p2, rfl⟩ := un_sl api_Packet.enc_dec g2
 obtain ⟨p3, rfl⟩ := un_int g3
 exact brokerlaw15_InboundOnce_ok p0 p1 p2 p3 _ (by rw [brokerlaw15_InboundOnce_law p0 p1 p2 p3 g0 g1 g2 g3]; rfl)
end Te
end PX
namespace Go.Proofs.YtcfpheihkbkloaaGreatDoor.inboundOnce
open Go.ChangeShapes Go.WideShapes Go.ChangeAt Go.RowKit
theorem own : ownKnob Tryz.prog.godebug = none := by kernel_rfl
theorem bulk_ok {H : Type} : PX.BulkOK (H := H) Rows.uptoBulk Rows.uptoBulkAll := ⟨fun l => by cases l <;> simp [Rows.uptoBulk], fun b => by simp [Rows.uptoBulk], by simp [Rows.uptoBulk], fun e s => by simp only [Rows.uptoBulk]; omega, fun p => by simp only [Rows.uptoBulk]; omega, by simp [Rows.uptoBulkAll], fun d r => by simp [Rows.uptoBulkAll]⟩
theorem contract (H : Type) (enc : TypeId × Value → H) (W : World) (base : Nat) (args : Array Value) (ds gs : List (DataW H)) (before : List MemPlace)
  (hval : ∀ (j : Nat) t v, Tryz.f5.params[j]? = some t → args[j]? = some v → Value.okWide Tryz.prog W .any base t v)
  (hW : DataW.Whole enc Tryz.prog Tryz.f5.params.toList Rows.inboundOnceSpec.vars false W args.toList ds gs before)
  (hwt : (DataW.weightsEach Tryz.prog (Tryz.f5.params.toList ++ Rows.inboundOnceSpec.plain.varTypes Tryz.prog) (ds ++ gs)).all (· ≤ reachBytes) = true) :
  Calls Tryz.prog 5 args W fun e W' => ∃ v, e = .returned v ∧ Rows.inboundOnceSpec.post enc Tryz.prog Tryz.f5 false true false false W args v W' := by
 refine PX.contract_law (kss := [PX.Md.api_Inbox.ks, PX.Md.api_Packet.ks, [.sl PX.Md.api_Packet.ks], [.int .u8]]) (tb := 4) PX.Te.se_ok PX.Te.se_libs bulk_ok W base args ds gs before hval hW hwt (by kernel_rfl) rfl Tryz.underlying4 rfl (fun ds h => ?_) (fun dss h hb => ?_)
 ·have h : ds.length = 4 := h
  rcases ds with _ | ⟨d, _ | ⟨d, _ | ⟨d, _ | ⟨d, _ | ⟨d, r⟩⟩⟩⟩⟩ <;> first | rfl | (simp at h)
 ·have e : Tryz.f5.params.toList.map (PX.isStruct Tryz.prog) = [true, true, false, false] := by kernel_rfl
  rw [e]
  exact PX.Te.brokerlaw15_InboundOnce_call dss h
def zargs : Array Value := #[.agg #[.slice none 0 0], .agg #[.int .i64 0, .int .i64 0, .bool false, .string .empty, .string .empty, .int .i64 0, .bool false, .int .i64 0, .int .i64 0, .string .empty, .int .i64 0, .slice none 0 0, .string .empty, .string .empty, .bool false, .int .i64 0, .int .i64 0, .int .i64 0, .bool false, .int .i64 0, .string .empty, .string .empty, .int .i64 0, .bool false, .int .i64 0, .int .i64 0, .string .empty, .int .i64 0, .slice none 0 0, .bool false, .int .i64 0, .slice none 0 0, .slice none 0 0, .slice none 0 0], .slice none 0 0, .int .u8 0]
def zread {H : Type} : List (DataW H) := [.agg [.nil], .agg [.lit (.int .i64 0), .lit (.int .i64 0), .lit (.bool false), .agg [.lit (.string []), .lit (.string []), .lit (.int .i64 0), .lit (.bool false), .lit (.int .i64 0), .lit (.int .i64 0), .lit (.string []), .lit (.int .i64 0), .nil], .lit (.string []), .lit (.string []), .lit (.bool false), .lit (.int .i64 0), .lit (.int .i64 0), .lit (.int .i64 0), .agg [.lit (.bool false), .lit (.int .i64 0), .agg [.lit (.string []), .lit (.string []), .lit (.int .i64 0), .lit (.bool false), .lit (.int .i64 0), .lit (.int .i64 0), .lit (.string []), .lit (.int .i64 0), .nil]], .lit (.bool false), .lit (.int .i64 0), .nil, .nil, .nil], .nil, .lit (.int .u8 0)]
theorem laid_met (os : Os) : laidMet Tryz.prog Rows.inboundOnceRow.laid ((PX.laidWorld Tryz.prog Rows.inboundOnceRow.laid os).forCall (fun _ _ => 0) ⟨#[], zargs, []⟩).memory :=
 laidMet_of_run' 8 (by kernel_rfl) (by kernel_rfl)
theorem reads (os : Os) {H : Type} (enc : TypeId × Value → H) : ∃ places, DataW.whole enc Tryz.prog ((PX.laidWorld Tryz.prog Rows.inboundOnceRow.laid os).forCall (fun _ _ => 0) ⟨#[], zargs, []⟩).memory Tryz.f5.params.toList Rows.inboundOnceSpec.vars false (zargs : Array Value).toList 8 = some (zread, [], places) :=
 ⟨[], by kernel_rfl⟩
theorem lifted (os : Os) (started : os.Started) (H : Type) (enc : TypeId × Value → H) (F : Stop.Interp) :
  ReturnsInHanded {} Tryz.checked os 5 .any ((OpenSpec.ofChange Rows.inboundOnceSpec).preRow enc Tryz.prog Tryz.f5 Rows.inboundOnceRow.domain false Rows.inboundOnceRow.laid) (((OpenSpec.ofChange Rows.inboundOnceSpec).at F).post enc Tryz.prog Tryz.f5 false true false false) := by
 obtain ⟨places, hx⟩ := reads os enc
 refine returnsInHanded_of_row (C := Tryz.checked) (s := (OpenSpec.ofChange Rows.inboundOnceSpec)) own started (by kernel_rfl) Tryz.func5
  (witness_row_at (enc := enc) (C := Tryz.checked) false (PX.laidWorld Tryz.prog Rows.inboundOnceRow.laid os) zargs rfl (by kernel_rfl) (by kernel_rfl) (by kernel_rfl)
   (OpenSpec.preRow_of_cond 8 hx (by kernel_rfl) (fun k hk => by cases hk) (by kernel_rfl) (laid_met os))) ?_
 intro W base args ds gs before hval hW _ hcond hwt _ _ _
 exact contract H enc W base args ds gs before hval hW hwt
theorem said : Rows.InboundOnceSaid :=
 OpenClaim.holds_of_cond 5 Tryz.f5 rfl rfl rfl rfl rfl rfl rfl ⟨rfl, rfl, rfl, rfl, rfl⟩ rfl rfl rfl rfl rfl (by kernel_rfl) Tryz.func5 (by kernel_rfl)
  (of_decide_eq_true (by kernel_rfl)) (by unfold Func.isWrapper; first | (rw [if_pos (by decide +kernel)]; kernel_rfl) | (rw [if_neg (by decide +kernel)]; exact ⟨rfl, rfl⟩))
  (fun os started H enc _ F => by rw [OpenClaim.pre_eq_preRow]; exact lifted os started H enc F)
theorem plain (f : FuncId) (fn : Func) (hf : Tryz.pinned.checked.prog.funcNamed "broker/brokerlaw15.InboundOnce" = some f) (hfn : Tryz.pinned.checked.prog.funcs[f]? = some fn) :
  false = Tryz.pinned.checked.prog.looks [] ∧ ∀ (j : Nat) t, fn.params[j]? = some t → Tryz.pinned.checked.prog.wantsStandIn t = false := by
 obtain rfl : f = 5 := Option.some.inj ((show Tryz.prog.funcNamed "broker/brokerlaw15.InboundOnce" = some 5 by kernel_rfl).symm.trans hf) |>.symm
 obtain rfl : fn = Tryz.f5 := (Option.some.inj (Tryz.func5.symm.trans hfn)).symm
 refine ⟨by kernel_rfl, fun j t ht => ?_⟩
 have ha : (Tryz.f5.params.toList.all fun t => !(Tryz.prog.wantsStandIn t)) = true := by kernel_rfl
 have hm : t ∈ Tryz.f5.params.toList := by simpa using Array.mem_of_getElem? ht
 have := List.all_eq_true.1 ha t hm
 exact (Bool.not_eq_true' _).mp this
theorem inboundOnce_holds : Rows.InboundOnceCardSaid :=
 Claim7.holds_tied_plain_at .later [] _ _ _ _ said (fun _ h => by cases h) (by kernel_rfl) (fun _ h => by cases h) inboundOnce_row_tie rfl ⟨rfl, rfl⟩ (by kernel_rfl) rfl plain (by kernel_rfl)
end Go.Proofs.YtcfpheihkbkloaaGreatDoor.inboundOnce
