import Derived.Test.YtkkbpepemldlaaaDoorLawPacketAnswers
set_option linter.unusedVariables false
set_option linter.unusedSimpArgs false
set_option linter.unusedVariables false
set_option linter.unusedSimpArgs false
namespace PX
open Go
namespace Md
theorem check_28 {p : api_Packet} (hk : rngB 1 14 p.Kind = true) (hu : p ≠ usedP p) : checkP p = 28 := by
  unfold checkP; rw [hk, cn_t, cond_f (by simpa using hu)]
theorem used_fields (p : api_Packet) (h : rngB 1 14 p.Kind = true) : (p.Kind ≠ 1 → (usedP p).Window = 0) ∧ (p.Kind ≠ 9 → p.Kind ≠ 11 → (usedP p).Codes = []) ∧ (p.Kind ≠ 2 → (usedP p).Present = false) := by
  obtain ⟨k, a2, a3, a4, a5, a6, a7, a8, a9, a10, a11, a14, a15, a16, a17, a18⟩ := p
  rcases fourteen h with h | h | h | h | h | h | h | h | h | h | h | h | h | h <;> (simp only at h; subst h; exact ⟨fun h => by first | rfl | exact absurd rfl h, fun h h' => by first | rfl | exact absurd rfl h | exact absurd rfl h', fun h => by first | rfl | exact absurd rfl h⟩)
theorem brokerlaw06_PacketFields_law (p0 : api_Packet) (g0 : D.okL api_Packet.ks (api_Packet.enc p0)) : brokerlaw06_PacketFields p0 = some true := by
  have h := good06 g0
  obtain ⟨b, hb⟩ := small_total p0 h
  have h' := h
  obtain ⟨i1, i2, i3, i4, i5, i6, i7, i8, i9, i10, i11, i12, i13⟩ := h'
  have w1 : okI .i64 1 := okI_lit (by decide) (by decide)
  have w0 : okL (okI .i64) [0] := ⟨by simp, fun x hx => by obtain rfl := List.mem_singleton.1 hx; exact okI_lit (by decide) (by decide)⟩
  unfold brokerlaw06_PacketFields
  rw [bind_of hb]
  cases b
  · rw [cond_t (by rfl), bind_of awake06]
  rw [cond_f (by rfl), bind_of (packet_Check_eq _ h)]
  by_cases h0 : checkP p0 = 0
  · have hk := (check_parts h0).1
    have g1 : (api_Packet.mk p0.Kind p0.ID p0.Dup p0.Message p0.Client p0.User p0.Clean p0.Keep p0.Expiry 1 p0.Will p0.Present p0.Code p0.Subs p0.Filters p0.Codes).good := ⟨i1, i2, i3, i4, i5, i6, i7, w1, i9, i10, i11, i12, i13⟩
    have g2 : (api_Packet.mk p0.Kind p0.ID p0.Dup p0.Message p0.Client p0.User p0.Clean p0.Keep p0.Expiry p0.Window p0.Will p0.Present p0.Code p0.Subs p0.Filters [0]).good := ⟨i1, i2, i3, i4, i5, i6, i7, i8, i9, i10, i11, i12, w0⟩
    have g3 : (api_Packet.mk p0.Kind p0.ID p0.Dup p0.Message p0.Client p0.User p0.Clean p0.Keep p0.Expiry p0.Window p0.Will true p0.Code p0.Subs p0.Filters p0.Codes).good := ⟨i1, i2, i3, i4, i5, i6, i7, i8, i9, i10, i11, i12, i13⟩
    have j13 : ∀ q, brokerlaw06_PacketFields_j13 p0 q = some true := by
      intro q
      unfold brokerlaw06_PacketFields_j13
      rw [cn_bne, bind_of (packet_Check_eq _ g3), bind_of awake06]
      by_cases hk2 : p0.Kind = 2
      · rw [hk2]; rfl
      · rw [cond_f (by simpa using hk2), check_28 (p := { p0 with Present := true }) hk (fun hu => by have := congrArg api_Packet.Present hu; rw [(used_fields { p0 with Present := true } hk).2.2 hk2] at this; cases this)]; rfl
    have j8 : ∀ q, brokerlaw06_PacketFields_j8 p0 q = some true := by
      intro q
      unfold brokerlaw06_PacketFields_j8
      simp only [cn_bne, j13, packet_Check_eq _ g2, cn_bind]
      by_cases hk9 : p0.Kind = 9
      · rw [hk9]; rfl
      · by_cases hk11 : p0.Kind = 11
        · rw [hk11]; rfl
        · rw [cond_f (by simpa using hk9), cond_f (by simpa using hk11), check_28 (p := { p0 with Codes := [0] }) hk (fun hu => by have := congrArg api_Packet.Codes hu; rw [(used_fields { p0 with Codes := [0] } hk).2.1 hk9 hk11] at this; cases this)]; rfl
    rw [h0]
    unfold brokerlaw06_PacketFields_j3
    simp only [cn_bne, j8, packet_Check_eq _ g1, cn_bind]
    by_cases hk1 : p0.Kind = 1
    · rw [hk1]; rfl
    · rw [cond_f (b := p0.Kind == 1) (by simpa using hk1), check_28 (p := { p0 with Window := 1 }) hk (fun hu => by have := congrArg api_Packet.Window hu; rw [(used_fields { p0 with Window := 1 } hk).1 hk1] at this; cases this)]; rfl
  · rw [cond_t (by simpa using h0), bind_of awake06]
end Md
end PX
