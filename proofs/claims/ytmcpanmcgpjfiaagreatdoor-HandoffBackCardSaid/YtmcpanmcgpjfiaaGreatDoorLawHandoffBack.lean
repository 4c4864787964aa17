import Derived.Test.YtmcpanmcgpjfiaaGreatDoorRdH
import Derived.Test.YtmcpanmcgpjfiaaGreatDoorSessC
import Derived.Test.YtmcpanmcgpjfiaaGreatDoorSeatA
set_option linter.unusedVariables false
set_option linter.unusedSimpArgs false
namespace PX
open Go
namespace Md
theorem atL {l : List Int} (h : l.length * 1 ≤ 140737488355328) : iT l = some l := by
 unfold iT
 have hd : (decide ((List.length ([] : List Int) + List.length l) * 1 ≤ 140737488355328)) = true := by simp; omega
 rw [hd, eS, List.nil_append]
 cases l with
 | nil => simp [ahH]
 | cons a b => rfl
theorem acO (p0 : aI) (p1 : Int) (g0 : D.okL aI.ks (aI.enc p0)) (g1 : D.okL [.int .u16] ([D.int .u16 p1])) : oZ p0 p1 = some true := by
 have g := aI.j6 g0
 have h1 : 0 ≤ p1 ∧ p1 ≤ 65535 := by
  have := g1.1.2
  simp only [Go.Lit.wf, Go.IntKind.min, Go.IntKind.max, Go.IntKind.signed, Go.IntKind.bits, Bool.and_eq_true, decide_eq_true_eq] at this
  revert this
  simp
 obtain ⟨b, hl⟩ := aq7 p0
 unfold oZ
 rw [am9, hl]
 cases b with
 | false => rfl
 | true =>
  simp only [aY, Bool.not_true, eW]
  obtain ⟨s, hs⟩ : ∃ s, s = aI.mk p0.Client p0.User false 0 p0.Expiry p0.Until p0.Dropped p0.Subs p0.Queue p0.Out p0.In p0.Will := ⟨_, rfl⟩
  have gs : s.good := by
   obtain ⟨a1, a2, _, a3⟩ := g
   rw [hs]
   exact ⟨a1, a2, qY (x := 0) (by decide) (by decide), a3⟩
  have on : s.Online = false := by rw [hs]
  have cn : s.Conn = 0 := by rw [hs]
  rw [← hs, ajq s gs, aY, acj s gs, aY]
  by_cases hc : jT s = 0
  ·have hx : xC s = (iV s, 0) := by
    unfold xC
    rw [aS (by simpa using hc), on, eW]
   have d := awf gs hc on cn
   have hB := avw d
   rw [hx]
   dsimp only
   rw [aS (by simp), acN hB, aY, aqS d hc]
   dsimp only
   rw [aS (by simp), ap9 s (aoS hc), aY, aS (by simp)]
   have hlen : 0 < (iV s).length := by
    have := ahd
    unfold iV gQ cO
    rw [mY]
    split <;> simp
   rw [aS (by rw [beq_eq_false_iff_ne]; omega)]
   unfold mP
   have e1 : IntKind.wrap .i64 p1 = p1 := by rw [IntKind.wrap_i64]; omega
   obtain ⟨k, hk⟩ : ∃ k : Nat, (k : Int) = Int.tmod p1 ((iV s).length : Int) ∧ k < (iV s).length := by
    rw [Int.tmod_eq_emod_of_nonneg h1.1]
    have a1 := Int.emod_nonneg p1 (b := ((iV s).length : Int)) (by omega)
    have a2 := Int.emod_lt_of_pos p1 (b := ((iV s).length : Int)) (by omega)
    obtain ⟨r, hr⟩ : ∃ r, r = p1 % ((iV s).length : Int) := ⟨_, rfl⟩
    rw [← hr] at a1 a2 ⊢
    exact ⟨r.toNat, by omega, by omega⟩
   have hne : (((iV s).length : Int) != 0) = true := by rw [bne_iff_ne]; omega
   have e2 : (aI.mk s.Client s.User s.Online s.Conn s.Expiry s.Until s.Dropped s.Subs s.Queue (aO.mk s.Out.Limit s.Out.Items (bE.mk s.Out.Pool.Used s.Out.Pool.Last)) (bO.mk s.In.IDs) (bM.mk s.Will.Set s.Will.Delay (aC.mk s.Will.Message.Topic s.Will.Message.Payload s.Will.Message.Level s.Will.Message.Retain s.Will.Message.Priority s.Will.Message.Expires s.Will.Message.From s.Will.Message.Seq s.Will.Message.Props))) = s := rfl
   rw [e2, ajq s gs, hx, aY, aL hne, e1, ← hk.1, aL (by simp only [Bool.and_eq_true, decide_eq_true_eq]; omega)]
   have ec : dB (iV s) none (some (k : Int)) = (iV s).take k := by unfold dB; simp
   have hBt : Buf ((iV s).take k) := ⟨fun x hx => hB.1 x (List.mem_of_mem_take hx), by have := hB.2; rw [List.length_take]; omega⟩
   have hw : IntKind.wrap .u8 p1 = p1 % 256 := wu8 p1
   have hBl : Buf (iV s ++ [p1 % 256]) := ⟨fB hB.1 fun x hx => by rcases List.mem_singleton.1 hx with rfl; omega, by have := ahl d; simp; omega⟩
   have hcl : iT (iV s) = some (iV s) := atL (by have := ahl d; omega)
   rw [ec, acN hBt, aY, hcl, aY, hw, aL (by have := ahl d; simp; omega), acN hBl, aY]
   have hlong : jU (iV s ++ [p1 % 256]) = (mI, 2) := by
    unfold jU
    rw [acE d]
    simp
   have hcut : (jU ((iV s).take k)).2 ≠ 0 := fun h0 => by
    obtain ⟨d2, c2, e3⟩ := ajz hBt h0
    have b1 := acE d2 ((iV s).drop k)
    rw [← e3, List.take_append_drop] at b1
    have b2 := acE d []
    rw [List.append_nil, b1] at b2
    injection b2 with _ b3
    have := congrArg List.length b3
    simp at this
    omega
   rw [hlong, aL (by simp)]
   unfold lK
   rw [aY, aL (by simp), aL (by simpa using hcut), aL (by simp)]
   rfl
  ·have hx : xC s = ([], jT s) := by
    unfold xC
    rw [aL (by simpa using hc)]
   rw [hx]
   dsimp only
   rw [aL (by simpa using hc), aL (by simp), aL (by simp)]
end Md
end PX
