import Derived.Test.YtcfpheihkbkloaaGreatDoorPktA
set_option linter.unusedVariables false
set_option linter.unusedSimpArgs false
/- Packets: checks. -/
set_option linter.unusedVariables false
set_option linter.unusedSimpArgs false
namespace PX
open Go
namespace Md
abbrev zeroM : api_Message := api_Message.mk ([] : Str) ([] : Str) 0 false 0 0 ([] : Str) 0 ([] : List api_Prop)
def willE (w : api_Will) : Int := cond w.Set (cond (rngB 0 1099511627776 w.Delay) (checkM w.Message) 1) (cond (w.Delay == 0) (cond (decide (w.Message = zeroM)) 0 28) 28)
def connE (p : api_Packet) : Int := cond (rngB 0 1099511627776 p.Keep) (cond (rngB 0 1099511627776 p.Expiry) (cond (rngB 1 32 p.Window) (willE p.Will) 1) 1) 1
def connectE (p : api_Packet) : Int := cond (nameB p.Client) (cond (p.User == []) (connE p) (cond (nameB p.User) (connE p) 11)) 11
theorem from_small {m : api_Message} (h : m.good) : m.From.length < 1000000000000000 := by have h1 : m.From.length ≤ 140737488351232 := h.2.2.2.2.2.1; omega
theorem props_small {m : api_Message} (h : m.good) : m.Props.length < 1000000000000000 := by have := h.2.2.2.2.2.2.2.1; omega
theorem text_small {s : Str} (h : okS s) : s.length < 1000000000000000 := by have h : s.length ≤ 140737488351232 := h; omega
theorem connect_eq (p : api_Packet) (h : p.good) : packet_connect p = some (connectE p) := by
 obtain ⟨_, _, hm, hc, hu, _, _, _, hw, _⟩ := h
 unfold packet_connect connectE connE willE
 simp only [some_cond, name_eq _ (text_small hc), name_eq _ (text_small hu), packet_is_eq, message_Same_eq _ _ (props_small hw.2), message_Check_eq _ (from_small hw.2), cn_not, cn_bne, cn_bind, cn_bindp]
 cases p.Will.Set <;> simp only [cn_t, cn_f]
theorem ref_Will_eq (w : api_Will) (h : w.good) : brokerref06_Will w = some (willE w) := by
 unfold brokerref06_Will willE
 simp only [some_cond, ref_Same_eq _ _ (props_small h.2), ref_Check_eq _ (from_small h.2), cn_not, cn_bne, cn_bind, cn_bindp, cn_gt, rng_cond]
theorem ref_connect_eq (p : api_Packet) (h : p.good) : brokerref06_connect p = some (connectE p) := by
 obtain ⟨_, _, hm, hc, hu, _, _, _, hw, _⟩ := h
 unfold brokerref06_connect brokerref06_connect_j3 connectE connE
 simp only [some_cond, ref_name_eq _ (text_small hc), ref_name_eq _ (text_small hu), ref_Will_eq _ hw, cn_not, cn_bne, cn_bind, cn_bindp, cn_gt, rng_cond]
def identE (x : Int) : Int := cond (rngB 1 65535 x) 0 15
theorem ident_eq (x : Int) : packet_ident x = some (identE x) := by
 unfold packet_ident identE; simp only [some_cond, packet_is_eq, cn_not, cn_bind]
theorem ref_ident_eq (x : Int) : brokerref06_ident x = some (identE x) := by
 unfold brokerref06_ident identE; simp only [some_cond, cn_gt, rng_cond]
def publishE (p : api_Packet) : Int := cond (checkM p.Message == 0) (cond (p.Message.Level == 0) (cond (p.ID == 0) (cond p.Dup 28 0) 15) (identE p.ID)) (checkM p.Message)
theorem publish_eq (p : api_Packet) (h : p.good) : packet_publish p = some (publishE p) := by
 obtain ⟨_, _, hm, _⟩ := h
 unfold packet_publish publishE; simp only [some_cond, message_Check_eq _ (from_small hm), ident_eq, cn_not, cn_bne, cn_bind]
theorem ref_publish_eq (p : api_Packet) (h : p.good) : brokerref06_publish p = some (publishE p) := by
 obtain ⟨_, _, hm, _⟩ := h
 unfold brokerref06_publish publishE; simp only [some_cond, ref_Check_eq _ (from_small hm), ref_ident_eq, cn_not, cn_bne, cn_bind]
def countE (n : Int) : Int := cond (n == 0) 1 (cond (decide (32 < n)) 5 0)
def countedE (x n : Int) : Int := cond (rngB 1 65535 x) (countE n) 15
theorem counted_eq (x n : Int) : packet_counted x n = some (countedE x n) := by
 unfold packet_counted countedE countE; simp only [some_cond, packet_is_eq, cn_not, cn_bind, cn_gt]
theorem ref_count_eq (n : Int) : brokerref06_count n = some (countE n) := by
 unfold brokerref06_count countE; simp only [some_cond, cn_gt]
theorem code_eq (x : Int) : packet_code x = some (rngB 0 29 x) := by
 unfold packet_code; simp only [packet_is_eq, cn_bindp]
theorem ref_Code_eq (x : Int) : brokerref06_Code x = some (rngB 0 29 x) := by
 unfold brokerref06_Code rngB; simp only [cn_sa, cn_sd]
def subE (x : api_Sub) : Int := cond (wantedB x.Filter) (cond (rngB 0 2 x.Level) (cond x.NoLocal (cond (sharedB x.Filter).isSome 28 0) 0) 14) 13
theorem ref_Sub_eq (x : api_Sub) (h : x.good) : brokerref06_Sub x = some (subE x) := by
 have h := text_small h.1
 unfold brokerref06_Sub brokerref06_Sub_j5 subE
 simp only [some_cond, ref_wanted_eq _ h, ref_shared_eq _ h, sharedT_ok, cn_not, cn_bind, cn_gt, rng_cond]
/-- The first error of a list. -/
def firstE {α : Type} (f : α → Int) : List α → Int
 | [] => 0
 | x :: r => cond (f x == 0) (firstE f r) (f x)
def wantE (s : Str) : Int := cond (wantedB s) 0 13
def codE (x : Int) : Int := cond (rngB 0 29 x) 0 1
theorem good_at {α : Type} {P : α → Prop} {l : List α} (h : okL P l) {i : Nat} (hi : i < l.length) : P l[i] := h.2 _ (List.getElem_mem hi)
theorem subscribe_l (l : List api_Sub) (h : okL api_Sub.good l) : packet_subscribe_l5 fuel l (l.length : Int) 0 = some (firstE subE l) := by
 have hl := h.1
 refine loop_list (F := fun fu i => packet_subscribe_l5 fu l (l.length : Int) i) (g := fun r => some (firstE subE r)) (fun fu => by rw [packet_subscribe_l5, cond_f (lt_f (by omega))]; rfl) (fun fu i hi ih => ?_) (by omega)
 rw [packet_subscribe_l5, cond_t (lt_t hi), cond_t (inr hi), getD_nat hi, bind_of (wanted_eq _ (good_at h hi).1), w64_succ (by omega), ih, firstE]
 simp only [packet_is_eq, cn_bind, cn_not, some_cond, subE]
 cases wantedB l[i].Filter <;> cases rngB 0 2 l[i].Level <;> cases l[i].NoLocal <;> cases (sharedB l[i].Filter).isSome <;> rfl
theorem unsubscribe_l (l : List Str) (h : okL okS l) : packet_unsubscribe_l5 fuel l (l.length : Int) 0 = some (firstE wantE l) := by
 have hl := h.1
 refine loop_list (F := fun fu i => packet_unsubscribe_l5 fu l (l.length : Int) i) (g := fun r => some (firstE wantE r)) (fun fu => by rw [packet_unsubscribe_l5, cond_f (lt_f (by omega))]; rfl) (fun fu i hi ih => ?_) (by omega)
 rw [packet_unsubscribe_l5, cond_t (lt_t hi), cond_t (inr hi), getD_nat hi, bind_of (wanted_eq _ (good_at h hi)), w64_succ (by omega), ih, firstE]
 simp only [cn_not, wantE]
 cases wantedB l[i] <;> rfl
theorem codes_l (l : List Int) (h : okL (okI .i64) l) : packet_codes_l5 fuel l (l.length : Int) 0 = some (firstE codE l) := by
 have hl := h.1
 refine loop_list (F := fun fu i => packet_codes_l5 fu l (l.length : Int) i) (g := fun r => some (firstE codE r)) (fun fu => by rw [packet_codes_l5, cond_f (lt_f (by omega))]; rfl) (fun fu i hi ih => ?_) (by omega)
 rw [packet_codes_l5, cond_t (lt_t hi), cond_t (inr hi), getD_nat hi, bind_of (code_eq _), w64_succ (by omega), ih, firstE]
 simp only [cn_not, codE]
 cases rngB 0 29 l[i] <;> rfl
def subscribeE (p : api_Packet) : Int := cond (countedE p.ID p.Subs.length == 0) (firstE subE p.Subs) (countedE p.ID p.Subs.length)
def unsubscribeE (p : api_Packet) : Int := cond (countedE p.ID p.Filters.length == 0) (firstE wantE p.Filters) (countedE p.ID p.Filters.length)
def codesE (p : api_Packet) : Int := cond (countedE p.ID p.Codes.length == 0) (firstE codE p.Codes) (countedE p.ID p.Codes.length)
theorem subscribe_eq (p : api_Packet) (h : p.good) : packet_subscribe p = some (subscribeE p) := by
 obtain ⟨_, _, _, _, _, _, _, _, _, _, h1, h2, h3⟩ := h
 unfold packet_subscribe subscribeE; simp only [counted_eq, cn_bind, cn_bne, subscribe_l _ h1, some_cond]
theorem unsubscribe_eq (p : api_Packet) (h : p.good) : packet_unsubscribe p = some (unsubscribeE p) := by
 obtain ⟨_, _, _, _, _, _, _, _, _, _, h1, h2, h3⟩ := h
 unfold packet_unsubscribe unsubscribeE; simp only [counted_eq, cn_bind, cn_bne, unsubscribe_l _ h2, some_cond]
theorem codes_eq (p : api_Packet) (h : p.good) : packet_codes p = some (codesE p) := by
 obtain ⟨_, _, _, _, _, _, _, _, _, _, h1, h2, h3⟩ := h
 unfold packet_codes codesE; simp only [counted_eq, cn_bind, cn_bne, codes_l _ h3, some_cond]
def ackE (p : api_Packet) : Int := cond (rngB 0 29 p.Code) (cond p.Present (cond (p.Code == 0) 0 28) 0) 1
def bodyE (p : api_Packet) : Int :=
 cond (p.Kind == 1) (connectE p) (cond (p.Kind == 2) (ackE p) (cond (p.Kind == 14) (ackE p) (cond (p.Kind == 3) (publishE p)
 (cond (p.Kind == 4) (identE p.ID) (cond (p.Kind == 5) (identE p.ID) (cond (p.Kind == 6) (identE p.ID) (cond (p.Kind == 7) (identE p.ID)
 (cond (p.Kind == 8) (subscribeE p) (cond (p.Kind == 9) (codesE p) (cond (p.Kind == 11) (codesE p) (cond (p.Kind == 10) (unsubscribeE p) 0)))))))))))
/-- The first error of a packet. -/
def checkP (p : api_Packet) : Int := cond (rngB 1 14 p.Kind) (cond (decide (p = usedP p)) (bodyE p) 28) 10
theorem packet_Check_eq (p : api_Packet) (h : p.good) : packet_Check p = some (checkP p) := by
 unfold packet_Check checkP bodyE ackE
 simp only [packet_is_eq, used_eq, packet_Same_eq _ _ h, connect_eq _ h, publish_eq _ h, ident_eq, subscribe_eq _ h, codes_eq _ h, unsubscribe_eq _ h, code_eq, cn_bind, cn_bne, cn_not, some_cond]
theorem fourteen {x : Int} (h : rngB 1 14 x = true) : x = 1 ∨ x = 2 ∨ x = 3 ∨ x = 4 ∨ x = 5 ∨ x = 6 ∨ x = 7 ∨ x = 8 ∨ x = 9 ∨ x = 10 ∨ x = 11 ∨ x = 12 ∨ x = 13 ∨ x = 14 := by
 rw [rng_true] at h; omega
theorem ref_used_eq (p : api_Packet) (h : rngB 1 14 p.Kind = true) : brokerref06_Used p = some (usedP p) := by
 rw [← used_eq]
 obtain ⟨k, a2, a3, a4, a5, a6, a7, a8, a9, a10, a11, a14, a15, a16, a17, a18⟩ := p
 rcases fourteen h with h | h | h | h | h | h | h | h | h | h | h | h | h | h <;> (simp only at h; subst h; rfl)
theorem elements13 (p : api_Packet) (h : okL (okI .i64) p.Codes) : brokerref06_elements_l13 fuel 0 p = some (firstE codE p.Codes) := by
 have hl := h.1
 refine loop_list (F := fun fu i => brokerref06_elements_l13 fu i p) (g := fun r => some (firstE codE r)) (fun fu => by rw [brokerref06_elements_l13, cond_f (lt_f (by omega))]; rfl) (fun fu i hi ih => ?_) (by omega)
 rw [brokerref06_elements_l13, cond_t (lt_t hi), cond_t (inr hi), getD_nat hi, bind_of (ref_Code_eq _), w64_succ (by omega), ih, firstE]
 simp only [cn_not, codE]
 cases rngB 0 29 p.Codes[i] <;> rfl
def andE (a b : Int) : Int := cond (a == 0) b a
theorem elements8 (p : api_Packet) (h : okL okS p.Filters) (h3 : okL (okI .i64) p.Codes) : brokerref06_elements_l8 fuel 0 p = some (andE (firstE wantE p.Filters) (firstE codE p.Codes)) := by
 have hl := h.1
 refine loop_list (F := fun fu i => brokerref06_elements_l8 fu i p) (g := fun r => some (andE (firstE wantE r) (firstE codE p.Codes))) (fun fu => by rw [brokerref06_elements_l8, cond_f (lt_f (by omega)), elements13 _ h3]; rfl) (fun fu i hi ih => ?_) (by omega)
 rw [brokerref06_elements_l8, cond_t (lt_t hi), cond_t (inr hi), getD_nat hi, bind_of (ref_wanted_eq _ (text_small (good_at h hi))), w64_succ (by omega), ih, firstE]
 simp only [cn_not, wantE]
 cases wantedB p.Filters[i] <;> rfl
theorem elements_eq (p : api_Packet) (h : p.good) : brokerref06_elements p = some (andE (firstE subE p.Subs) (andE (firstE wantE p.Filters) (firstE codE p.Codes))) := by
 obtain ⟨_, _, _, _, _, _, _, _, _, _, h1, h2, h3⟩ := h
 have hl := h1.1
 unfold brokerref06_elements
 refine loop_list (F := fun fu i => brokerref06_elements_l2 fu i p) (g := fun r => some (andE (firstE subE r) (andE (firstE wantE p.Filters) (firstE codE p.Codes)))) (fun fu => by rw [brokerref06_elements_l2, cond_f (lt_f (by omega)), elements8 _ h2 h3]; rfl) (fun fu i hi ih => ?_) (by omega)
 rw [brokerref06_elements_l2, cond_t (lt_t hi), cond_t (inr hi), getD_nat hi, bind_of (ref_Sub_eq _ (good_at h1 hi)), w64_succ (by omega), ih, firstE, cn_bne]
 cases hc : subE p.Subs[i] == 0
 ·rw [cn_f, cn_f, andE, hc]; rfl
 ·rw [cn_t, cn_t]
theorem andE0 (a : Int) : andE a 0 = a := by
 unfold andE
 by_cases h : a = 0
 ·rw [cond_t (by simpa using h), h]
 ·rw [cond_f (by simpa using h)]
theorem andE0' (a : Int) : andE 0 a = a := rfl
theorem used_lists (p : api_Packet) (h : rngB 1 14 p.Kind = true) (hu : p = usedP p) : (p.Kind ≠ 8 → p.Subs = []) ∧ (p.Kind ≠ 10 → p.Filters = []) ∧ (p.Kind ≠ 9 → p.Kind ≠ 11 → p.Codes = []) := by
 have hs := congrArg api_Packet.Subs hu
 have hf := congrArg api_Packet.Filters hu
 have hc := congrArg api_Packet.Codes hu
 clear hu
 obtain ⟨k, a2, a3, a4, a5, a6, a7, a8, a9, a10, a11, a14, a15, a16, a17, a18⟩ := p
 rcases fourteen h with h | h | h | h | h | h | h | h | h | h | h | h | h | h <;> (simp only at h; subst h; exact ⟨fun h => by first | exact hs | exact absurd rfl h, fun h => by first | exact hf | exact absurd rfl h, fun h h' => by first | exact hc | exact absurd rfl h | exact absurd rfl h'⟩)
theorem ref_PCheck_eq (p : api_Packet) (h : p.good) : brokerref06_Check p = some (checkP p) := by
 unfold brokerref06_Check checkP
 rw [cn_gt, rng_cond, some_cond]
 cases hk : rngB 1 14 p.Kind
 ·rfl
 rw [cn_t, cn_t]
 unfold brokerref06_Check_j3
 rw [bind_of (ref_used_eq p hk), bind_of (ref_PSame_eq p _ h), cn_not, some_cond]
 by_cases hu : p = usedP p
 ·have hd : decide (p = usedP p) = true := by simpa using hu
  rw [hd, cn_t, cn_t]
  obtain ⟨u1, u2, u3⟩ := used_lists p hk hu
  have h' := h
  obtain ⟨_, _, _, _, _, _, _, _, _, _, g1, g2, g3⟩ := h'
  have l1 := g1.1; have l2 := g2.1; have l3 := g3.1
  unfold brokerref06_Check_j15 brokerref06_Check_j17 brokerref06_Check_j20 bodyE ackE
  simp only [ref_connect_eq _ h, ref_publish_eq _ h, ref_Code_eq, ref_ident_eq, ref_count_eq, elements_eq _ h, cn_bind, cn_bne, cn_not, some_cond]
  have w1 : IntKind.wrap .i64 ((p.Subs.length : Int) + (p.Filters.length : Int)) = (p.Subs.length : Int) + (p.Filters.length : Int) := w64 (by omega) (by omega)
  have w2 : IntKind.wrap .i64 ((p.Subs.length : Int) + (p.Filters.length : Int) + (p.Codes.length : Int)) = (p.Subs.length : Int) + (p.Filters.length : Int) + (p.Codes.length : Int) := w64 (by omega) (by omega)
  rw [w1, w2]
  have z : ((0 : Nat) : Int) = 0 := rfl
  rcases fourteen hk with e | e | e | e | e | e | e | e | e | e | e | e | e | e <;> rw [e] at u1 u2 u3 ⊢
  ·rfl
  ·rfl
  ·rfl
  ·unfold identE; cases rngB 1 65535 p.ID <;> rfl
  ·unfold identE; cases rngB 1 65535 p.ID <;> rfl
  ·unfold identE; cases rngB 1 65535 p.ID <;> rfl
  ·unfold identE; cases rngB 1 65535 p.ID <;> rfl
  ·rw [u2 (by decide), u3 (by decide) (by decide)]
   simp only [firstE, andE0', andE0, List.length_nil, z, Int.add_zero, Int.zero_add]
   unfold subscribeE countedE identE; cases rngB 1 65535 p.ID
   ·rfl
   ·exact (some_cond _ _ _).symm
  ·rw [u1 (by decide), u2 (by decide)]
   simp only [firstE, andE0', andE0, List.length_nil, z, Int.add_zero, Int.zero_add]
   unfold codesE countedE identE; cases rngB 1 65535 p.ID
   ·rfl
   ·exact (some_cond _ _ _).symm
  ·rw [u1 (by decide), u3 (by decide) (by decide)]
   simp only [firstE, andE0', andE0, List.length_nil, z, Int.add_zero, Int.zero_add]
   unfold unsubscribeE countedE identE; cases rngB 1 65535 p.ID
   ·rfl
   ·exact (some_cond _ _ _).symm
  ·rw [u1 (by decide), u2 (by decide)]
   simp only [firstE, andE0', andE0, List.length_nil, z, Int.add_zero, Int.zero_add]
   unfold codesE countedE identE; cases rngB 1 65535 p.ID
   ·rfl
   ·exact (some_cond _ _ _).symm
  ·rfl
  ·rfl
  ·rfl
 ·have hd : decide (p = usedP p) = false := by simpa using hu
  rw [hd]; rfl
end Md
end PX
