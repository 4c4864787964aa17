import Derived.Test.YtcfpheihkbkloaaGreatDoorPktB
import Derived.KernelRfl
set_option linter.unusedVariables false
set_option linter.unusedSimpArgs false
/- Kinds, answers, the awake check of chapter 06. -/
set_option linter.unusedVariables false
set_option linter.unusedSimpArgs false
namespace PX
open Go
namespace Md
def bothB (k : Int) : Bool := rngB 3 7 k || k == 14
def clientB (k : Int) : Bool := bothB k || (k == 1 || (k == 8 || (k == 10 || k == 12)))
def brokerB (k : Int) : Bool := bothB k || (k == 2 || (k == 9 || (k == 11 || k == 13)))
/-- The packet of a kind and an identifier. -/
def kindP (k i : Int) : api_Packet := api_Packet.mk k i false zeroM ([] : Str) ([] : Str) false 0 0 0 (api_Will.mk false 0 zeroM) false 0 ([] : List api_Sub) ([] : List Str) ([] : List Int)
def answerK (p : api_Packet) : Int := cond (p.Kind == 3) (cond (p.Message.Level == 1) 4 (cond (p.Message.Level == 2) 5 0)) (cond (p.Kind == 5) 6 (cond (p.Kind == 6) 7 (cond (p.Kind == 12) 13 0)))
def answerP (p : api_Packet) : api_Packet × Bool := cond (answerK p == 0) (kindP 0 0, false) (kindP (answerK p) p.ID, true)
theorem answer_eq (p : api_Packet) : packet_Answer p = some (answerP p) := by
 unfold packet_Answer answerP answerK
 by_cases h3 : p.Kind = 3
 ·rw [h3]
  cases p.Message.Level == 1 <;> cases p.Message.Level == 2 <;> rfl
 ·by_cases h5 : p.Kind = 5
  ·rw [h5]; rfl
  ·by_cases h6 : p.Kind = 6
   ·rw [h6]; rfl
   ·by_cases h12 : p.Kind = 12
    ·rw [h12]; rfl
    ·have e3 : (p.Kind == 3) = false := by simpa using h3
     have e5 : (p.Kind == 5) = false := by simpa using h5
     have e6 : (p.Kind == 6) = false := by simpa using h6
     have e12 : (p.Kind == 12) = false := by simpa using h12
     rw [e3, e5, e6, e12]; rfl
theorem i64_small {n : Nat} (h : n < 1000000) : okI .i64 (n : Int) := by
 simp only [okI, Go.Lit.wf, Go.IntKind.min, Go.IntKind.max, Go.IntKind.signed, Go.IntKind.bits, Bool.and_eq_true, decide_eq_true_eq, if_true]; omega
theorem okI_lit {x : Int} (h1 : 0 ≤ x) (h2 : x < 1000000) : okI .i64 x := by
 obtain ⟨n, rfl⟩ := Int.eq_ofNat_of_zero_le h1
 exact i64_small (by omega)
theorem okS_short {s : Str} (h : s.length ≤ 1000000) : okS s := by show s.length ≤ _; omega
theorem okL_nil' {α : Type} {P : α → Prop} : okL P [] := ⟨by simp, fun x hx => by cases hx⟩
theorem zero_good : zeroM.good := ⟨okS_short (by simp), okS_short (by simp), okI_lit (by decide) (by decide), okI_lit (by decide) (by decide), okI_lit (by decide) (by decide), okS_short (by simp), okI_lit (by decide) (by decide), okL_nil'⟩
theorem kind_good {k i : Int} (hk : okI .i64 k) (hi : okI .i64 i) : (kindP k i).good :=
 have z : okI .i64 0 := okI_lit (by decide) (by decide)
 have e : okS [] := okS_short (by simp)
 ⟨hk, hi, zero_good, e, e, z, z, z, ⟨z, zero_good⟩, z, okL_nil', okL_nil', okL_nil'⟩
theorem answerK_rng (p : api_Packet) : 0 ≤ answerK p ∧ answerK p ≤ 13 := by
 unfold answerK
 cases p.Kind == 3 <;> cases p.Message.Level == 1 <;> cases p.Message.Level == 2 <;> cases p.Kind == 5 <;> cases p.Kind == 6 <;> cases p.Kind == 12 <;> decide
theorem answer_good (p : api_Packet) (h : okI .i64 p.ID) : (answerP p).1.good := by
 have := answerK_rng p
 unfold answerP
 cases answerK p == 0
 ·exact kind_good (okI_lit this.1 (by omega)) h
 ·exact kind_good (okI_lit (by decide) (by decide)) (okI_lit (by decide) (by decide))
theorem good06 {p : api_Packet} (h : D.okL api_Packet.ks (api_Packet.enc p)) : p.good := api_Packet.good_of h
end Md
end PX
