/- The Go function SlowOrder returns true for every input, and each argument reads afterwards as it read before; conditions: those of the given row, no others. -/
import Derived.Test.YtjbfkdbbdkafnaaEnv
import Derived.Test.YtjbfkdbbdkafnaaLawSlowOrder
import Derived.Test.YtjbfkdbbdkafnaaRows
import Derived.WalkKit
import Derived.ProofKit
import Derived.OpenShut
import Derived.JoinedCond
import Derived.Deep.DeepHandedRow
import Derived.Lib.LaidTab
set_option linter.unusedVariables false
set_option linter.unusedSimpArgs false
set_option maxRecDepth 100000
noncomputable section
namespace PX
open Go Md
namespace Te
theorem brokerlaw17_SlowOrder_call (dss : List (List D)) (h : okArgs [[.int .u8], [.int .i64], [.sl [.int .i64]]] dss) : callW SE 6 (avArgs [false, false, false] dss) [] [] = some (.ret [.d (.bool true)] [] []) := by
  obtain ⟨e0, r0, rfl, g0, h⟩ := okArgs_cons h
  obtain ⟨e1, r1, rfl, g1, h⟩ := okArgs_cons h
  obtain ⟨e2, r2, rfl, g2, h⟩ := okArgs_cons h
  obtain rfl := okArgs_nil h
  obtain ⟨p0, rfl⟩ := un_int g0
  obtain ⟨p1, rfl⟩ := un_int g1
  obtain ⟨p2, rfl⟩ := un_sl encI_dec g2
  exact brokerlaw17_SlowOrder_ok p0 p1 p2 _ (by rw [brokerlaw17_SlowOrder_law p0 p1 p2 g0 g1 g2]; rfl)
end Te
end PX
namespace Go.Proofs.Ytjbfkdbbdkafnaa.slowOrder
open Go.ChangeShapes Go.WideShapes Go.ChangeAt Go.RowKit
theorem own : ownKnob Try.prog.godebug = none := by kernel_rfl
theorem bulk_ok {H : Type} : PX.BulkOK (H := H) Rows.uptoBulk Rows.uptoBulkAll := ⟨fun l => by cases l <;> simp [Rows.uptoBulk], fun b => by simp [Rows.uptoBulk], by simp [Rows.uptoBulk], fun e s => by simp only [Rows.uptoBulk]; omega, fun p => by simp only [Rows.uptoBulk]; omega, by simp [Rows.uptoBulkAll], fun d r => by simp [Rows.uptoBulkAll]⟩
theorem contract (H : Type) (enc : TypeId × Value → H) (W : World) (base : Nat) (args : Array Value) (ds gs : List (DataW H)) (before : List MemPlace)
    (hval : ∀ (j : Nat) t v, Try.f6.params[j]? = some t → args[j]? = some v → Value.okWide Try.prog W .any base t v)
    (hW : DataW.Whole enc Try.prog Try.f6.params.toList Rows.slowOrderSpec.vars false W args.toList ds gs before)
    (hwt : (DataW.weightsEach Try.prog (Try.f6.params.toList ++ Rows.slowOrderSpec.plain.varTypes Try.prog) (ds ++ gs)).all (· ≤ reachBytes) = true) :
    Calls Try.prog 6 args W fun e W' => ∃ v, e = .returned v ∧ Rows.slowOrderSpec.post enc Try.prog Try.f6 false true false false W args v W' := by
  refine PX.contract_law (kss := [[.int .u8], [.int .i64], [.sl [.int .i64]]]) (tb := 4) PX.Te.se_ok bulk_ok W base args ds gs before hval hW hwt (by kernel_rfl) rfl Try.underlying4 rfl (fun ds h => ?_) (fun dss h hb => ?_)
  · have h : ds.length = 3 := h
    rcases ds with _ | ⟨d, _ | ⟨d, _ | ⟨d, _ | ⟨d, r⟩⟩⟩⟩ <;> first | rfl | (simp at h)
  · have e : Try.f6.params.toList.map (PX.isStruct Try.prog) = [false, false, false] := by kernel_rfl
    rw [e]
    exact PX.Te.brokerlaw17_SlowOrder_call dss h
def zargs : Array Value := #[.int .u8 0, .int .i64 0, .slice none 0 0]
def zread {H : Type} : List (DataW H) := [.lit (.int .u8 0), .lit (.int .i64 0), .nil]
theorem laid_met (os : Os) : laidMet Try.prog Rows.slowOrderRow.laid ((PX.laidWorld Try.prog Rows.slowOrderRow.laid os).forCall (fun _ _ => 0) ⟨#[], zargs, []⟩).memory :=
  laidMet_of_run' 8 (by kernel_rfl) (by kernel_rfl)
theorem reads (os : Os) {H : Type} (enc : TypeId × Value → H) : ∃ places, DataW.whole enc Try.prog ((PX.laidWorld Try.prog Rows.slowOrderRow.laid os).forCall (fun _ _ => 0) ⟨#[], zargs, []⟩).memory Try.f6.params.toList Rows.slowOrderSpec.vars false (zargs : Array Value).toList 8 = some (zread, [], places) :=
  ⟨[], by kernel_rfl⟩
theorem lifted (os : Os) (started : os.Started) (H : Type) (enc : TypeId × Value → H) (F : Stop.Interp) :
    ReturnsInHanded {} Try.checked os 6 .any ((OpenSpec.ofChange Rows.slowOrderSpec).preRow enc Try.prog Try.f6 Rows.slowOrderRow.domain false Rows.slowOrderRow.laid) (((OpenSpec.ofChange Rows.slowOrderSpec).at F).post enc Try.prog Try.f6 false true false false) := by
  obtain ⟨places, hx⟩ := reads os enc
  refine returnsInHanded_of_row (C := Try.checked) (s := (OpenSpec.ofChange Rows.slowOrderSpec)) own started (by kernel_rfl) Try.func6
    (witness_row_at (enc := enc) (C := Try.checked) false (PX.laidWorld Try.prog Rows.slowOrderRow.laid os) zargs rfl (by kernel_rfl) (by kernel_rfl) (by kernel_rfl)
      (OpenSpec.preRow_of_cond 8 hx (by kernel_rfl) (fun k hk => by cases hk) (by kernel_rfl) (laid_met os))) ?_
  intro W base args ds gs before hval hW _ hcond hwt _ _ _
  exact contract H enc W base args ds gs before hval hW hwt
theorem said : Rows.SlowOrderSaid :=
  OpenClaim.holds_of_cond 6 Try.f6 rfl rfl rfl rfl rfl rfl rfl ⟨rfl, rfl, rfl, rfl, rfl⟩ rfl rfl rfl rfl rfl (by kernel_rfl) Try.func6 (by kernel_rfl)
    (of_decide_eq_true (by kernel_rfl)) (by unfold Func.isWrapper; first | (rw [if_pos (by decide +kernel)]; kernel_rfl) | (rw [if_neg (by decide +kernel)]; exact ⟨rfl, rfl⟩))
    (fun os started H enc _ F => by rw [OpenClaim.pre_eq_preRow]; exact lifted os started H enc F)
theorem slowOrder_holds : Rows.SlowOrderSaid := said
end Go.Proofs.Ytjbfkdbbdkafnaa.slowOrder