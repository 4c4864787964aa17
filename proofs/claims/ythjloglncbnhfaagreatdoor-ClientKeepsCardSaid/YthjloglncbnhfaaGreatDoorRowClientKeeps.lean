/- The Go function ClientKeeps returns true for every input, and each argument reads afterwards as it read before; conditions: those of the given row, no others. -/
import Derived.Test.YthjloglncbnhfaaGreatDoorEnv
import Derived.Test.YthjloglncbnhfaaGreatDoorLawClientKeeps
import Derived.Test.YthjloglncbnhfaaGreatDoorRows
import Derived.WalkKit
import Derived.ProofKit
import Derived.OpenShut
import Derived.JoinedCond
import Derived.Deep.DeepHandedRow
import Derived.Lib.LaidTab
import Derived.Test.YthjloglncbnhfaaGreatDoorCards
import Derived.Test.YthjloglncbnhfaaGreatDoorTie
set_option linter.unusedVariables false
set_option linter.unusedSimpArgs false
set_option maxRecDepth 100000
noncomputable section
namespace PX
open Go Md
namespace Te
theorem brokerlaw51_ClientKeeps_call (dss : List (List D)) (h : zY [[.int .i64], [.sl aB.ks], [.int .u8]] dss) : aW SE 5 (abz [false, false, false] dss) [] [] = some (.ret [.d (.bool true)] [] []) := by
 obtain ⟨e0, r0, rfl, g0, h⟩ := aeH h
 obtain ⟨e1, r1, rfl, g1, h⟩ := aeH h
 obtain ⟨e2, r2, rfl, g2, h⟩ := aeH h
 obtain rfl := apO h
 obtain ⟨p0, rfl⟩ := aui g0
 obtain ⟨p1, rfl⟩ := au5 aB.eQ g1
 obtain ⟨p2, rfl⟩ := aui g2
 exact amx p0 p1 p2 _ (by rw [awd p0 p1 p2 g0 g1 g2]; rfl)
end Te
end PX
namespace Go.Proofs.YthjloglncbnhfaaGreatDoor.clientKeeps
open Go.ChangeShapes Go.WideShapes Go.ChangeAt Go.RowKit
theorem own : ownKnob Tryz.prog.godebug = none := by kernel_rfl
theorem bulk_ok {H : Type} : PX.aft (H := H) Rows.uptoBulk Rows.uptoBulkAll := ⟨fun l => by cases l <;> simp [Rows.uptoBulk], fun b => by simp [Rows.uptoBulk], by simp [Rows.uptoBulk], fun e s => by simp only [Rows.uptoBulk]; omega, fun p => by simp only [Rows.uptoBulk]; omega, by simp [Rows.uptoBulkAll], fun d r => by simp [Rows.uptoBulkAll]⟩
theorem contract (H : Type) (enc : TypeId × Value → H) (W : World) (base : Nat) (args : Array Value) (ds gs : List (DataW H)) (before : List MemPlace)
  (hval : ∀ (j : Nat) t v, Tryz.f5.params[j]? = some t → args[j]? = some v → Value.okWide Tryz.prog W .any base t v)
  (hW : DataW.Whole enc Tryz.prog Tryz.f5.params.toList Rows.clientKeepsSpec.vars false W args.toList ds gs before)
  (hwt : (DataW.weightsEach Tryz.prog (Tryz.f5.params.toList ++ Rows.clientKeepsSpec.plain.varTypes Tryz.prog) (ds ++ gs)).all (· ≤ reachBytes) = true) :
  Calls Tryz.prog 5 args W fun e W' => ∃ v, e = .returned v ∧ Rows.clientKeepsSpec.post enc Tryz.prog Tryz.f5 false true false false W args v W' := by
 refine PX.anp (kss := [[.int .i64], [.sl PX.Md.aB.ks], [.int .u8]]) (tb := 4) PX.Te.am3 PX.Te.ats bulk_ok W base args ds gs before hval hW hwt (by kernel_rfl) rfl Tryz.underlying4 rfl (fun ds h => ?_) (fun dss h hb => ?_)
 ·have h : ds.length = 3 := h
  rcases ds with _ | ⟨d, _ | ⟨d, _ | ⟨d, _ | ⟨d, r⟩⟩⟩⟩ <;> first | rfl | (simp at h)
 ·have e : Tryz.f5.params.toList.map (PX.pC Tryz.prog) = [false, false, false] := by kernel_rfl
  rw [e]
  exact PX.Te.brokerlaw51_ClientKeeps_call dss h
def zargs : Array Value := #[.int .i64 0, .slice none 0 0, .int .u8 0]
def zread {H : Type} : List (DataW H) := [.lit (.int .i64 0), .nil, .lit (.int .u8 0)]
theorem laid_met (os : Os) : laidMet Tryz.prog Rows.clientKeepsRow.laid ((PX.ahK Tryz.prog Rows.clientKeepsRow.laid os).forCall (fun _ _ => 0) ⟨#[], zargs, []⟩).memory :=
 laidMet_of_run' 8 (by kernel_rfl) (by kernel_rfl)
theorem reads (os : Os) {H : Type} (enc : TypeId × Value → H) : ∃ places, DataW.whole enc Tryz.prog ((PX.ahK Tryz.prog Rows.clientKeepsRow.laid os).forCall (fun _ _ => 0) ⟨#[], zargs, []⟩).memory Tryz.f5.params.toList Rows.clientKeepsSpec.vars false (zargs : Array Value).toList 8 = some (zread, [], places) :=
 ⟨[], by kernel_rfl⟩
theorem lifted (os : Os) (started : os.Started) (H : Type) (enc : TypeId × Value → H) (F : Stop.Interp) :
  ReturnsInHanded {} Tryz.checked os 5 .any ((OpenSpec.ofChange Rows.clientKeepsSpec).preRow enc Tryz.prog Tryz.f5 Rows.clientKeepsRow.domain false Rows.clientKeepsRow.laid) (((OpenSpec.ofChange Rows.clientKeepsSpec).at F).post enc Tryz.prog Tryz.f5 false true false false) := by
 obtain ⟨places, hx⟩ := reads os enc
 refine returnsInHanded_of_row (C := Tryz.checked) (s := (OpenSpec.ofChange Rows.clientKeepsSpec)) own started (by kernel_rfl) Tryz.func5
  (witness_row_at (enc := enc) (C := Tryz.checked) false (PX.ahK Tryz.prog Rows.clientKeepsRow.laid os) zargs rfl (by kernel_rfl) (by kernel_rfl) (by kernel_rfl)
   (OpenSpec.preRow_of_cond 8 hx (by kernel_rfl) (fun k hk => by cases hk) (by kernel_rfl) (laid_met os))) ?_
 intro W base args ds gs before hval hW _ hcond hwt _ _ _
 exact contract H enc W base args ds gs before hval hW hwt
theorem said : Rows.ClientKeepsSaid :=
 OpenClaim.holds_of_cond 5 Tryz.f5 rfl rfl rfl rfl rfl rfl rfl ⟨rfl, rfl, rfl, rfl, rfl⟩ rfl rfl rfl rfl rfl (by kernel_rfl) Tryz.func5 (by kernel_rfl)
  (of_decide_eq_true (by kernel_rfl)) (by unfold Func.isWrapper; first | (rw [if_pos (by decide +kernel)]; kernel_rfl) | (rw [if_neg (by decide +kernel)]; exact ⟨rfl, rfl⟩))
  (fun os started H enc _ F => by rw [OpenClaim.pre_eq_preRow]; exact lifted os started H enc F)
theorem plain (f : FuncId) (fn : Func) (hf : Tryz.pinned.checked.prog.funcNamed "broker/brokerlaw51.ClientKeeps" = some f) (hfn : Tryz.pinned.checked.prog.funcs[f]? = some fn) :
  false = Tryz.pinned.checked.prog.looks [] ∧ ∀ (j : Nat) t, fn.params[j]? = some t → Tryz.pinned.checked.prog.wantsStandIn t = false := by
 obtain rfl : f = 5 := Option.some.inj ((show Tryz.prog.funcNamed "broker/brokerlaw51.ClientKeeps" = some 5 by kernel_rfl).symm.trans hf) |>.symm
 obtain rfl : fn = Tryz.f5 := (Option.some.inj (Tryz.func5.symm.trans hfn)).symm
 refine ⟨by kernel_rfl, fun j t ht => ?_⟩
 have ha : (Tryz.f5.params.toList.all fun t => !(Tryz.prog.wantsStandIn t)) = true := by kernel_rfl
 have hm : t ∈ Tryz.f5.params.toList := by simpa using Array.mem_of_getElem? ht
 have := List.all_eq_true.1 ha t hm
 exact (Bool.not_eq_true' _).mp this
theorem clientKeeps_holds : Rows.ClientKeepsCardSaid :=
 Claim7.holds_tied_plain_at .later [] _ _ _ _ said (fun _ h => by cases h) (by kernel_rfl) (fun _ h => by cases h) clientKeeps_row_tie rfl ⟨rfl, rfl⟩ (by kernel_rfl) rfl plain (by kernel_rfl)
end Go.Proofs.YthjloglncbnhfaaGreatDoor.clientKeeps
