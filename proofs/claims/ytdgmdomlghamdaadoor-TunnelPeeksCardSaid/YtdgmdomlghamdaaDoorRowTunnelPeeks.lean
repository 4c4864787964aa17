/- The Go function TunnelPeeks returns true for every input, and each argument reads afterwards as it read before; conditions: those of the given row, no others. -/
import Derived.Test.YtdgmdomlghamdaaDoorEnv
import Derived.Test.YtdgmdomlghamdaaDoorLawTunnelPeeks
import Derived.Test.YtdgmdomlghamdaaDoorRows
import Derived.WalkKit
import Derived.ProofKit
import Derived.OpenShut
import Derived.JoinedCond
import Derived.Deep.DeepHandedRow
import Derived.Lib.LaidTab
import Derived.Test.YtdgmdomlghamdaaDoorCards
import Derived.Test.YtdgmdomlghamdaaDoorTie
set_option linter.unusedVariables false
set_option linter.unusedSimpArgs false
set_option maxRecDepth 100000
noncomputable section
namespace PX
open Go Md
namespace Te
theorem brokerlaw09_TunnelPeeks_call (dss : List (List D)) (h : rZ [[.sl [.int .u8]]] dss) : bD SE 4 (tR [false] dss) [] [] = some (.ret [.d (.bool true)] [] []) := by
 obtain ⟨e0, r0, rfl, g0, h⟩ := aeO h
 obtain rfl := afR h
 obtain ⟨p0, rfl⟩ := asP abL g0
 exact wT p0 _ (by rw [vW p0 g0]; rfl)
end Te
end PX
namespace Go.Proofs.YtdgmdomlghamdaaDoor.tunnelPeeks
open Go.ChangeShapes Go.WideShapes Go.ChangeAt Go.RowKit
theorem own : ownKnob Tryd.prog.godebug = none := by kernel_rfl
theorem bulk_ok {H : Type} : PX.yF (H := H) Rows.uptoBulk Rows.uptoBulkAll := ⟨fun l => by cases l <;> simp [Rows.uptoBulk], fun b => by simp [Rows.uptoBulk], by simp [Rows.uptoBulk], fun e s => by simp only [Rows.uptoBulk]; omega, fun p => by simp only [Rows.uptoBulk]; omega, by simp [Rows.uptoBulkAll], fun d r => by simp [Rows.uptoBulkAll]⟩
theorem contract (H : Type) (enc : TypeId × Value → H) (W : World) (base : Nat) (args : Array Value) (ds gs : List (DataW H)) (before : List MemPlace)
  (hval : ∀ (j : Nat) t v, Tryd.f4.params[j]? = some t → args[j]? = some v → Value.okWide Tryd.prog W .any base t v)
  (hW : DataW.Whole enc Tryd.prog Tryd.f4.params.toList Rows.tunnelPeeksSpec.vars false W args.toList ds gs before)
  (hwt : (DataW.weightsEach Tryd.prog (Tryd.f4.params.toList ++ Rows.tunnelPeeksSpec.plain.varTypes Tryd.prog) (ds ++ gs)).all (· ≤ reachBytes) = true) :
  Calls Tryd.prog 4 args W fun e W' => ∃ v, e = .returned v ∧ Rows.tunnelPeeksSpec.post enc Tryd.prog Tryd.f4 false true false false W args v W' := by
 refine PX.acP (kss := [[.sl [.int .u8]]]) (tb := 4) PX.Te.alM PX.Te.akL bulk_ok W base args ds gs before hval hW hwt (by kernel_rfl) rfl Tryd.underlying4 rfl (fun ds h => ?_) (fun dss h hb => ?_)
 ·have h : ds.length = 1 := h
  rcases ds with _ | ⟨d, _ | ⟨d, r⟩⟩ <;> first | rfl | (simp at h)
 ·have e : Tryd.f4.params.toList.map (PX.jS Tryd.prog) = [false] := by kernel_rfl
  rw [e]
  exact PX.Te.brokerlaw09_TunnelPeeks_call dss h
def zargs : Array Value := #[.slice none 0 0]
def zread {H : Type} : List (DataW H) := [.nil]
theorem laid_met (os : Os) : laidMet Tryd.prog Rows.tunnelPeeksRow.laid ((PX.sW Tryd.prog Rows.tunnelPeeksRow.laid os).forCall (fun _ _ => 0) ⟨#[], zargs, []⟩).memory :=
 laidMet_of_run' 8 (by kernel_rfl) (by kernel_rfl)
theorem reads (os : Os) {H : Type} (enc : TypeId × Value → H) : ∃ places, DataW.whole enc Tryd.prog ((PX.sW Tryd.prog Rows.tunnelPeeksRow.laid os).forCall (fun _ _ => 0) ⟨#[], zargs, []⟩).memory Tryd.f4.params.toList Rows.tunnelPeeksSpec.vars false (zargs : Array Value).toList 8 = some (zread, [], places) :=
 ⟨[], by kernel_rfl⟩
theorem lifted (os : Os) (started : os.Started) (H : Type) (enc : TypeId × Value → H) (F : Stop.Interp) :
  ReturnsInHanded {} Tryd.checked os 4 .any ((OpenSpec.ofChange Rows.tunnelPeeksSpec).preRow enc Tryd.prog Tryd.f4 Rows.tunnelPeeksRow.domain false Rows.tunnelPeeksRow.laid) (((OpenSpec.ofChange Rows.tunnelPeeksSpec).at F).post enc Tryd.prog Tryd.f4 false true false false) := by
 obtain ⟨places, hx⟩ := reads os enc
 refine returnsInHanded_of_row (C := Tryd.checked) (s := (OpenSpec.ofChange Rows.tunnelPeeksSpec)) own started (by kernel_rfl) Tryd.func4
  (witness_row_at (enc := enc) (C := Tryd.checked) false (PX.sW Tryd.prog Rows.tunnelPeeksRow.laid os) zargs rfl (by kernel_rfl) (by kernel_rfl) (by kernel_rfl)
   (OpenSpec.preRow_of_cond 8 hx (by kernel_rfl) (fun k hk => by cases hk) (by kernel_rfl) (laid_met os))) ?_
 intro W base args ds gs before hval hW _ hcond hwt _ _ _
 exact contract H enc W base args ds gs before hval hW hwt
theorem said : Rows.TunnelPeeksSaid :=
 OpenClaim.holds_of_cond 4 Tryd.f4 rfl rfl rfl rfl rfl rfl rfl ⟨rfl, rfl, rfl, rfl, rfl⟩ rfl rfl rfl rfl rfl (by kernel_rfl) Tryd.func4 (by kernel_rfl)
  (of_decide_eq_true (by kernel_rfl)) (by unfold Func.isWrapper; first | (rw [if_pos (by decide +kernel)]; kernel_rfl) | (rw [if_neg (by decide +kernel)]; exact ⟨rfl, rfl⟩))
  (fun os started H enc _ F => by rw [OpenClaim.pre_eq_preRow]; exact lifted os started H enc F)
theorem plain (f : FuncId) (fn : Func) (hf : Tryd.pinned.checked.prog.funcNamed "broker/brokerlaw09.TunnelPeeks" = some f) (hfn : Tryd.pinned.checked.prog.funcs[f]? = some fn) :
  true = Tryd.pinned.checked.prog.looks [] ∧ ∀ (j : Nat) t, fn.params[j]? = some t → Tryd.pinned.checked.prog.wantsStandIn t = false := by
 obtain rfl : f = 4 := Option.some.inj ((show Tryd.prog.funcNamed "broker/brokerlaw09.TunnelPeeks" = some 4 by kernel_rfl).symm.trans hf) |>.symm
 obtain rfl : fn = Tryd.f4 := (Option.some.inj (Tryd.func4.symm.trans hfn)).symm
 refine ⟨by kernel_rfl, fun j t ht => ?_⟩
 have ha : (Tryd.f4.params.toList.all fun t => !(Tryd.prog.wantsStandIn t)) = true := by kernel_rfl
 have hm : t ∈ Tryd.f4.params.toList := by simpa using Array.mem_of_getElem? ht
 have := List.all_eq_true.1 ha t hm
 exact (Bool.not_eq_true' _).mp this
theorem tunnelPeeks_holds : Rows.TunnelPeeksCardSaid :=
 Claim7.holds_tied_plain_at .later [] _ _ _ _ said (fun _ h => by cases h) (by kernel_rfl) (fun _ h => by cases h) tunnelPeeks_row_tie rfl ⟨rfl, rfl⟩ (by kernel_rfl) rfl plain (by kernel_rfl)
end Go.Proofs.YtdgmdomlghamdaaDoor.tunnelPeeks
