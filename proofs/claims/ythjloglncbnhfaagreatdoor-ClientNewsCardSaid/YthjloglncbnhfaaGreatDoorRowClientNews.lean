/- The Go function ClientNews returns true for every input, and each argument reads afterwards as it read before; conditions: those of the given row, no others. -/
import Derived.Test.YthjloglncbnhfaaGreatDoorEnv
import Derived.Test.YthjloglncbnhfaaGreatDoorLawClientNews
import Derived.Test.YthjloglncbnhfaaGreatDoorRows
import Derived.WalkKit
import Derived.ProofKit
import Derived.OpenShut
import Derived.JoinedCond
import Derived.Deep.DeepHandedRow
import Derived.Lib.LaidTab
import Derived.Test.YthjloglncbnhfaaGreatDoorCards
import Derived.Test.YthjloglncbnhfaaGreatDoorTie
set_option linter.unusedVariables false
set_option linter.unusedSimpArgs false
set_option maxRecDepth 100000
noncomputable section
namespace PX
open Go Md
namespace Te
theorem brokerlaw51_ClientNews_call (dss : List (List D)) (h : zW [[.str], [.int .i64]] dss) : aX SE 3 (aby [false, false] dss) [] [] = some (.ret [.d (.bool true)] [] []) := by
 obtain ⟨e0, r0, rfl, g0, h⟩ := ajs h
 obtain ⟨e1, r1, rfl, g1, h⟩ := ajs h
 obtain rfl := apS h
 obtain ⟨p0, rfl⟩ := auM g0
 obtain ⟨p1, rfl⟩ := au6 g1
 exact acr p0 p1 _ (by rw [abX p0 p1 g0 g1]; rfl)
end Te
end PX
namespace Go.Proofs.YthjloglncbnhfaaGreatDoor.clientNews
open Go.ChangeShapes Go.WideShapes Go.ChangeAt Go.RowKit
theorem own : ownKnob Tryz.prog.godebug = none := by kernel_rfl
theorem bulk_ok {H : Type} : PX.afx (H := H) Rows.uptoBulk Rows.uptoBulkAll := ⟨fun l => by cases l <;> simp [Rows.uptoBulk], fun b => by simp [Rows.uptoBulk], by simp [Rows.uptoBulk], fun e s => by simp only [Rows.uptoBulk]; omega, fun p => by simp only [Rows.uptoBulk]; omega, by simp [Rows.uptoBulkAll], fun d r => by simp [Rows.uptoBulkAll]⟩
theorem contract (H : Type) (enc : TypeId × Value → H) (W : World) (base : Nat) (args : Array Value) (ds gs : List (DataW H)) (before : List MemPlace)
  (hval : ∀ (j : Nat) t v, Tryz.f3.params[j]? = some t → args[j]? = some v → Value.okWide Tryz.prog W .any base t v)
  (hW : DataW.Whole enc Tryz.prog Tryz.f3.params.toList Rows.clientNewsSpec.vars false W args.toList ds gs before)
  (hwt : (DataW.weightsEach Tryz.prog (Tryz.f3.params.toList ++ Rows.clientNewsSpec.plain.varTypes Tryz.prog) (ds ++ gs)).all (· ≤ reachBytes) = true) :
  Calls Tryz.prog 3 args W fun e W' => ∃ v, e = .returned v ∧ Rows.clientNewsSpec.post enc Tryz.prog Tryz.f3 false true false false W args v W' := by
 refine PX.aoG (kss := [[.str], [.int .i64]]) (tb := 4) PX.Te.anA PX.Te.at0 bulk_ok W base args ds gs before hval hW hwt (by kernel_rfl) rfl Tryz.underlying4 rfl (fun ds h => ?_) (fun dss h hb => ?_)
 ·have h : ds.length = 2 := h
  rcases ds with _ | ⟨d, _ | ⟨d, _ | ⟨d, r⟩⟩⟩ <;> first | rfl | (simp at h)
 ·have e : Tryz.f3.params.toList.map (PX.pE Tryz.prog) = [false, false] := by kernel_rfl
  rw [e]
  exact PX.Te.brokerlaw51_ClientNews_call dss h
def zargs : Array Value := #[.string .empty, .int .i64 0]
def zread {H : Type} : List (DataW H) := [.lit (.string []), .lit (.int .i64 0)]
theorem laid_met (os : Os) : laidMet Tryz.prog Rows.clientNewsRow.laid ((PX.ahG Tryz.prog Rows.clientNewsRow.laid os).forCall (fun _ _ => 0) ⟨#[], zargs, []⟩).memory :=
 laidMet_of_run' 8 (by kernel_rfl) (by kernel_rfl)
theorem reads (os : Os) {H : Type} (enc : TypeId × Value → H) : ∃ places, DataW.whole enc Tryz.prog ((PX.ahG Tryz.prog Rows.clientNewsRow.laid os).forCall (fun _ _ => 0) ⟨#[], zargs, []⟩).memory Tryz.f3.params.toList Rows.clientNewsSpec.vars false (zargs : Array Value).toList 8 = some (zread, [], places) :=
 ⟨[], by kernel_rfl⟩
theorem lifted (os : Os) (started : os.Started) (H : Type) (enc : TypeId × Value → H) (F : Stop.Interp) :
  ReturnsInHanded {} Tryz.checked os 3 .any ((OpenSpec.ofChange Rows.clientNewsSpec).preRow enc Tryz.prog Tryz.f3 Rows.clientNewsRow.domain false Rows.clientNewsRow.laid) (((OpenSpec.ofChange Rows.clientNewsSpec).at F).post enc Tryz.prog Tryz.f3 false true false false) := by
 obtain ⟨places, hx⟩ := reads os enc
 refine returnsInHanded_of_row (C := Tryz.checked) (s := (OpenSpec.ofChange Rows.clientNewsSpec)) own started (by kernel_rfl) Tryz.func3
  (witness_row_at (enc := enc) (C := Tryz.checked) false (PX.ahG Tryz.prog Rows.clientNewsRow.laid os) zargs rfl (by kernel_rfl) (by kernel_rfl) (by kernel_rfl)
   (OpenSpec.preRow_of_cond 8 hx (by kernel_rfl) (fun k hk => by cases hk) (by kernel_rfl) (laid_met os))) ?_
 intro W base args ds gs before hval hW _ hcond hwt _ _ _
 exact contract H enc W base args ds gs before hval hW hwt
theorem said : Rows.ClientNewsSaid :=
 OpenClaim.holds_of_cond 3 Tryz.f3 rfl rfl rfl rfl rfl rfl rfl ⟨rfl, rfl, rfl, rfl, rfl⟩ rfl rfl rfl rfl rfl (by kernel_rfl) Tryz.func3 (by kernel_rfl)
  (of_decide_eq_true (by kernel_rfl)) (by unfold Func.isWrapper; first | (rw [if_pos (by decide +kernel)]; kernel_rfl) | (rw [if_neg (by decide +kernel)]; exact ⟨rfl, rfl⟩))
  (fun os started H enc _ F => by rw [OpenClaim.pre_eq_preRow]; exact lifted os started H enc F)
theorem plain (f : FuncId) (fn : Func) (hf : Tryz.pinned.checked.prog.funcNamed "broker/brokerlaw51.ClientNews" = some f) (hfn : Tryz.pinned.checked.prog.funcs[f]? = some fn) :
  false = Tryz.pinned.checked.prog.looks [] ∧ ∀ (j : Nat) t, fn.params[j]? = some t → Tryz.pinned.checked.prog.wantsStandIn t = false := by
 obtain rfl : f = 3 := Option.some.inj ((show Tryz.prog.funcNamed "broker/brokerlaw51.ClientNews" = some 3 by kernel_rfl).symm.trans hf) |>.symm
 obtain rfl : fn = Tryz.f3 := (Option.some.inj (Tryz.func3.symm.trans hfn)).symm
 refine ⟨by kernel_rfl, fun j t ht => ?_⟩
 have ha : (Tryz.f3.params.toList.all fun t => !(Tryz.prog.wantsStandIn t)) = true := by kernel_rfl
 have hm : t ∈ Tryz.f3.params.toList := by simpa using Array.mem_of_getElem? ht
 have := List.all_eq_true.1 ha t hm
 exact (Bool.not_eq_true' _).mp this
theorem clientNews_holds : Rows.ClientNewsCardSaid :=
 Claim7.holds_tied_plain_at .later [] _ _ _ _ said (fun _ h => by cases h) (by kernel_rfl) (fun _ h => by cases h) clientNews_row_tie rfl ⟨rfl, rfl⟩ (by kernel_rfl) rfl plain (by kernel_rfl)
end Go.Proofs.YthjloglncbnhfaaGreatDoor.clientNews
