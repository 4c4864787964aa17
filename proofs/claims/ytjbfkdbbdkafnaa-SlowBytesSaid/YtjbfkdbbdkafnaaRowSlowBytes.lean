/- The Go function SlowBytes returns true for every input, and each argument reads afterwards as it read before; conditions: those of the given row, no others. -/
import Derived.Test.YtjbfkdbbdkafnaaEnv
import Derived.Test.YtjbfkdbbdkafnaaLawSlowBytes
import Derived.Test.YtjbfkdbbdkafnaaRows
import Derived.WalkKit
import Derived.ProofKit
import Derived.OpenShut
import Derived.JoinedCond
set_option linter.unusedVariables false
set_option linter.unusedSimpArgs false
set_option maxRecDepth 100000
noncomputable section
namespace PX
open Go Md
namespace Te
theorem brokerlaw17_SlowBytes_call (dss : List (List D)) (h : okArgs [[.sl api_Message.ks], [.sl api_Message.ks]] dss) : callW SE 5 (avArgs [false, false] dss) [] [] = some (.ret [.d (.bool true)] [] []) := by
  obtain ⟨e0, r0, rfl, g0, h⟩ := okArgs_cons h
  obtain ⟨e1, r1, rfl, g1, h⟩ := okArgs_cons h
  obtain rfl := okArgs_nil h
  obtain ⟨p0, rfl⟩ := un_sl api_Message.enc_dec g0
  obtain ⟨p1, rfl⟩ := un_sl api_Message.enc_dec g1
  exact brokerlaw17_SlowBytes_ok p0 p1 _ (by rw [brokerlaw17_SlowBytes_law p0 p1 g0 g1]; rfl)
end Te
end PX
namespace Go.Proofs.Ytjbfkdbbdkafnaa.slowBytes
open Go.ChangeShapes Go.WideShapes Go.ChangeAt Go.RowKit
theorem own : ownKnob Try.prog.godebug = none := by kernel_rfl
theorem bulk_ok {H : Type} : PX.BulkOK (H := H) Rows.uptoBulk Rows.uptoBulkAll := ⟨fun l => by cases l <;> simp [Rows.uptoBulk], fun b => by simp [Rows.uptoBulk], by simp [Rows.uptoBulk], fun e s => by simp only [Rows.uptoBulk]; omega, fun p => by simp only [Rows.uptoBulk]; omega, by simp [Rows.uptoBulkAll], fun d r => by simp [Rows.uptoBulkAll]⟩
theorem contract (H : Type) (enc : TypeId × Value → H) (W : World) (base : Nat) (args : Array Value) (ds gs : List (DataW H)) (before : List MemPlace)
    (hval : ∀ (j : Nat) t v, Try.f5.params[j]? = some t → args[j]? = some v → Value.okWide Try.prog W .any base t v)
    (hW : DataW.Whole enc Try.prog Try.f5.params.toList Rows.slowBytesSpec.vars false W args.toList ds gs before) :
    Calls Try.prog 5 args W fun e W' => ∃ v, e = .returned v ∧ Rows.slowBytesSpec.post enc Try.prog Try.f5 false true false false W args v W' := by
  refine PX.contract_law (kss := [[.sl PX.Md.api_Message.ks], [.sl PX.Md.api_Message.ks]]) (tb := 4) PX.Te.se_ok bulk_ok W base args ds gs before hval hW (by kernel_rfl) rfl Try.underlying4 rfl (fun ds h => ?_) (fun dss h hb => ?_)
  · have h : ds.length = 2 := h
    rcases ds with _ | ⟨d, _ | ⟨d, _ | ⟨d, r⟩⟩⟩ <;> first | rfl | (simp at h)
  · have e : Try.f5.params.toList.map (PX.isStruct Try.prog) = [false, false] := by kernel_rfl
    rw [e]
    exact PX.Te.brokerlaw17_SlowBytes_call dss h
theorem lifted (os : Os) (started : os.Started) (H : Type) (enc : TypeId × Value → H) :
    ReturnsInHanded {} Try.checked os 5 .any (Rows.slowBytesSpec.pre6 enc Try.prog Try.f5 Rows.slowBytesRow.domain false) (Rows.slowBytesSpec.post enc Try.prog Try.f5 false true false false) := by
  refine returnsInHanded_of_change (C := Try.checked) own started (by kernel_rfl) Try.func5
    (ChangeSpec.witness6 (enc := enc) (C := Try.checked) false ⟨#[], #[.slice none 0 0, .slice none 0 0], []⟩ 8 (by kernel_rfl) (by kernel_rfl) (by kernel_rfl) (by kernel_rfl)) ?_
  intro W base args ds gs before hval hW _ _
  exact contract H enc W base args ds gs before hval hW
theorem slowBytes_holds : Rows.SlowBytesSaid :=
  OpenClaim.holds_of_wide 5 Try.f5 rfl rfl rfl rfl rfl rfl rfl ⟨rfl, rfl, rfl, rfl, rfl⟩ rfl rfl rfl rfl rfl (by kernel_rfl) Try.func5 (by kernel_rfl)
    (of_decide_eq_true (by kernel_rfl)) (by unfold Func.isWrapper; first | (rw [if_pos (by decide +kernel)]; kernel_rfl) | (rw [if_neg (by decide +kernel)]; exact ⟨rfl, rfl⟩))
    (fun os started H enc _ => lifted os started H enc)
end Go.Proofs.Ytjbfkdbbdkafnaa.slowBytes