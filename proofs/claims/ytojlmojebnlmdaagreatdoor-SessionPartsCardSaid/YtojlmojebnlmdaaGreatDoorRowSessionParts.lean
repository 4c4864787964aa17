/- The Go function SessionParts returns true for every input, and each argument reads afterwards as it read before; conditions: those of the given row, no others. -/
import Derived.Test.YtojlmojebnlmdaaGreatDoorEnv
import Derived.Test.YtojlmojebnlmdaaGreatDoorLawSessionParts
import Derived.Test.YtojlmojebnlmdaaGreatDoorRows
import Derived.WalkKit
import Derived.ProofKit
import Derived.OpenShut
import Derived.JoinedCond
import Derived.Deep.DeepHandedRow
import Derived.Lib.LaidTab
import Derived.Test.YtojlmojebnlmdaaGreatDoorCards
import Derived.Test.YtojlmojebnlmdaaGreatDoorTie
set_option linter.unusedVariables false
set_option linter.unusedSimpArgs false
set_option maxRecDepth 100000
noncomputable section
namespace PX
open Go Md
namespace Te
theorem brokerlaw19_SessionParts_call (dss : List (List D)) (h : xW [[.int .u8], [.int .i64], [.int .i64], [.sl aK.ks]] dss) : bA SE 11 (aaa [false, false, false, false] dss) [] [] = some (.ret [.d (.bool true)] [] []) := by
 obtain ⟨e0, r0, rfl, g0, h⟩ := p8 h
 obtain ⟨e1, r1, rfl, g1, h⟩ := p8 h
 obtain ⟨e2, r2, rfl, g2, h⟩ := p8 h
 obtain ⟨e3, r3, rfl, g3, h⟩ := p8 h
 obtain rfl := aj7 h
 obtain ⟨p0, rfl⟩ := ag8 g0
 obtain ⟨p1, rfl⟩ := ag8 g1
 obtain ⟨p2, rfl⟩ := ag8 g2
 obtain ⟨p3, rfl⟩ := aA7 aK.gH g3
 exact abq p0 p1 p2 p3 _ (by rw [aaU p0 p1 p2 p3 g0 g1 g2 g3]; rfl)
end Te
end PX
namespace Go.Proofs.YtojlmojebnlmdaaGreatDoor.sessionParts
open Go.ChangeShapes Go.WideShapes Go.ChangeAt Go.RowKit
theorem own : ownKnob Tryz.prog.godebug = none := by kernel_rfl
theorem bulk_ok {H : Type} : PX.acQ (H := H) Rows.uptoBulk Rows.uptoBulkAll := ⟨fun l => by cases l <;> simp [Rows.uptoBulk], fun b => by simp [Rows.uptoBulk], by simp [Rows.uptoBulk], fun e s => by simp only [Rows.uptoBulk]; omega, fun p => by simp only [Rows.uptoBulk]; omega, by simp [Rows.uptoBulkAll], fun d r => by simp [Rows.uptoBulkAll]⟩
theorem contract (H : Type) (enc : TypeId × Value → H) (W : World) (base : Nat) (args : Array Value) (ds gs : List (DataW H)) (before : List MemPlace)
  (hval : ∀ (j : Nat) t v, Tryz.f11.params[j]? = some t → args[j]? = some v → Value.okWide Tryz.prog W .any base t v)
  (hW : DataW.Whole enc Tryz.prog Tryz.f11.params.toList Rows.sessionPartsSpec.vars false W args.toList ds gs before)
  (hwt : (DataW.weightsEach Tryz.prog (Tryz.f11.params.toList ++ Rows.sessionPartsSpec.plain.varTypes Tryz.prog) (ds ++ gs)).all (· ≤ reachBytes) = true) :
  Calls Tryz.prog 11 args W fun e W' => ∃ v, e = .returned v ∧ Rows.sessionPartsSpec.post enc Tryz.prog Tryz.f11 false true false false W args v W' := by
 refine PX.aic (kss := [[.int .u8], [.int .i64], [.int .i64], [.sl PX.Md.aK.ks]]) (tb := 4) PX.Te.af0 PX.Te.aqd bulk_ok W base args ds gs before hval hW hwt (by kernel_rfl) rfl Tryz.underlying4 rfl (fun ds h => ?_) (fun dss h hb => ?_)
 ·have h : ds.length = 4 := h
  rcases ds with _ | ⟨d, _ | ⟨d, _ | ⟨d, _ | ⟨d, _ | ⟨d, r⟩⟩⟩⟩⟩ <;> first | rfl | (simp at h)
 ·have e : Tryz.f11.params.toList.map (PX.nG Tryz.prog) = [false, false, false, false] := by kernel_rfl
  rw [e]
  exact PX.Te.brokerlaw19_SessionParts_call dss h
def zargs : Array Value := #[.int .u8 0, .int .i64 0, .int .i64 0, .slice none 0 0]
def zread {H : Type} : List (DataW H) := [.lit (.int .u8 0), .lit (.int .i64 0), .lit (.int .i64 0), .nil]
theorem laid_met (os : Os) : laidMet Tryz.prog Rows.sessionPartsRow.laid ((PX.zB Tryz.prog Rows.sessionPartsRow.laid os).forCall (fun _ _ => 0) ⟨#[], zargs, []⟩).memory :=
 laidMet_of_run' 8 (by kernel_rfl) (by kernel_rfl)
theorem reads (os : Os) {H : Type} (enc : TypeId × Value → H) : ∃ places, DataW.whole enc Tryz.prog ((PX.zB Tryz.prog Rows.sessionPartsRow.laid os).forCall (fun _ _ => 0) ⟨#[], zargs, []⟩).memory Tryz.f11.params.toList Rows.sessionPartsSpec.vars false (zargs : Array Value).toList 8 = some (zread, [], places) :=
 ⟨[], by kernel_rfl⟩
theorem lifted (os : Os) (started : os.Started) (H : Type) (enc : TypeId × Value → H) (F : Stop.Interp) :
  ReturnsInHanded {} Tryz.checked os 11 .any ((OpenSpec.ofChange Rows.sessionPartsSpec).preRow enc Tryz.prog Tryz.f11 Rows.sessionPartsRow.domain false Rows.sessionPartsRow.laid) (((OpenSpec.ofChange Rows.sessionPartsSpec).at F).post enc Tryz.prog Tryz.f11 false true false false) := by
 obtain ⟨places, hx⟩ := reads os enc
 refine returnsInHanded_of_row (C := Tryz.checked) (s := (OpenSpec.ofChange Rows.sessionPartsSpec)) own started (by kernel_rfl) Tryz.func11
  (witness_row_at (enc := enc) (C := Tryz.checked) false (PX.zB Tryz.prog Rows.sessionPartsRow.laid os) zargs rfl (by kernel_rfl) (by kernel_rfl) (by kernel_rfl)
   (OpenSpec.preRow_of_cond 8 hx (by kernel_rfl) (fun k hk => by cases hk) (by kernel_rfl) (laid_met os))) ?_
 intro W base args ds gs before hval hW _ hcond hwt _ _ _
 exact contract H enc W base args ds gs before hval hW hwt
theorem said : Rows.SessionPartsSaid :=
 OpenClaim.holds_of_cond 11 Tryz.f11 rfl rfl rfl rfl rfl rfl rfl ⟨rfl, rfl, rfl, rfl, rfl⟩ rfl rfl rfl rfl rfl (by kernel_rfl) Tryz.func11 (by kernel_rfl)
  (of_decide_eq_true (by kernel_rfl)) (by unfold Func.isWrapper; first | (rw [if_pos (by decide +kernel)]; kernel_rfl) | (rw [if_neg (by decide +kernel)]; exact ⟨rfl, rfl⟩))
  (fun os started H enc _ F => by rw [OpenClaim.pre_eq_preRow]; exact lifted os started H enc F)
theorem plain (f : FuncId) (fn : Func) (hf : Tryz.pinned.checked.prog.funcNamed "broker/brokerlaw19.SessionParts" = some f) (hfn : Tryz.pinned.checked.prog.funcs[f]? = some fn) :
  false = Tryz.pinned.checked.prog.looks [] ∧ ∀ (j : Nat) t, fn.params[j]? = some t → Tryz.pinned.checked.prog.wantsStandIn t = false := by
 obtain rfl : f = 11 := Option.some.inj ((show Tryz.prog.funcNamed "broker/brokerlaw19.SessionParts" = some 11 by kernel_rfl).symm.trans hf) |>.symm
 obtain rfl : fn = Tryz.f11 := (Option.some.inj (Tryz.func11.symm.trans hfn)).symm
 refine ⟨by kernel_rfl, fun j t ht => ?_⟩
 have ha : (Tryz.f11.params.toList.all fun t => !(Tryz.prog.wantsStandIn t)) = true := by kernel_rfl
 have hm : t ∈ Tryz.f11.params.toList := by simpa using Array.mem_of_getElem? ht
 have := List.all_eq_true.1 ha t hm
 exact (Bool.not_eq_true' _).mp this
theorem sessionParts_holds : Rows.SessionPartsCardSaid :=
 Claim7.holds_tied_plain_at .later [] _ _ _ _ said (fun _ h => by cases h) (by kernel_rfl) (fun _ h => by cases h) sessionParts_row_tie rfl ⟨rfl, rfl⟩ (by kernel_rfl) rfl plain (by kernel_rfl)
end Go.Proofs.YtojlmojebnlmdaaGreatDoor.sessionParts
