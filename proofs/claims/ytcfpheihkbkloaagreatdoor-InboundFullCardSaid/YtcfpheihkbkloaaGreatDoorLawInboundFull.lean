import Derived.Test.YtcfpheihkbkloaaGreatDoorInbB
set_option linter.unusedVariables false
set_option linter.unusedSimpArgs false
set_option linter.unusedVariables false
set_option linter.unusedSimpArgs false
namespace PX
open Go
namespace Md
/-- Identifiers one after the other. -/
def upI (c : Int) : Nat → List Int
 | 0 => []
 | n + 1 => upI c n ++ [c + n]
theorem up_len (c : Int) : ∀ n, (upI c n).length = n
 | 0 => rfl
 | n + 1 => by simp [upI, up_len c n]
theorem up_get (c : Int) : ∀ (n i : Nat) (h : i < (upI c n).length), (upI c n)[i] = c + i
 | 0, i, h => by simp [upI] at h
 | n + 1, i, h => by
  have hl := up_len c n
  rw [up_len] at h
  simp only [upI]
  rcases Nat.lt_or_ge i n with h' | h'
  ·rw [List.getElem_append_left (by omega)]; exact up_get c n i (by omega)
  ·rw [List.getElem_append_right (by omega)]
   have : i = n := by omega
   subst this
   simp
theorem up_mem (c : Int) (n : Nat) (x : Int) (h : x ∈ upI c n) : c ≤ x ∧ x < c + n := by
 obtain ⟨i, hi, rfl⟩ := List.getElem_of_mem h
 rw [up_get]
 rw [up_len] at hi
 omega
theorem asc_snoc : ∀ {l : List Int} {a x : Int}, ascB a l = true → (∀ y ∈ l, y < x) → a < x → x ≤ 65535 → ascB a (l ++ [x]) = true
 | [], a, x, _, _, h1, h2 => asc_cons.2 ⟨h1, h2, rfl⟩
 | y :: r, a, x, h, hm, h1, h2 => by
  obtain ⟨q1, q2, q3⟩ := asc_cons.1 h
  exact asc_cons.2 ⟨q1, q2, asc_snoc q3 (fun z hz => hm z (by simp [hz])) (hm y (by simp)) h2⟩
theorem up_asc (c : Int) (hc : 1 ≤ c) : ∀ n : Nat, c + n ≤ 65536 → ascB 0 (upI c n) = true
 | 0, _ => rfl
 | n + 1, h => asc_snoc (up_asc c hc n (by omega)) (fun y hy => by have := up_mem c n y hy; omega) (by omega) (by omega)
/-- The Publish packet with an identifier. -/
def pubI (i : Int) (d : Bool) (m : api_Message) : api_Packet := api_Packet.mk 3 i d m ([] : Str) ([] : Str) false 0 0 0 (api_Will.mk false 0 zeroM) false 0 ([] : List api_Sub) ([] : List Str) ([] : List Int)
theorem pubI_good {i : Int} {d : Bool} {m : api_Message} (hi : okI .i64 i) (hm : m.good) : (pubI i d m).good := by
 have z : okI .i64 0 := okI_lit (by decide) (by decide)
 have e : okS ([] : Str) := okS_short (by simp)
 have k : okI .i64 3 := okI_lit (by decide) (by decide)
 exact ⟨k, hi, hm, e, e, z, z, z, ⟨z, zero_good⟩, z, okL_nil', okL_nil', okL_nil'⟩
theorem pubI_check (i : Int) (d : Bool) (m : api_Message) : checkP (pubI i d m) = publishE (pubI i d m) := by
 have : usedP (pubI i d m) = pubI i d m := rfl
 unfold checkP
 rw [this, decide_eq_true rfl]
 rfl
theorem full_main {p0 c : Int} {p1 : api_Message} (hm : p1.good) (h0 : 0 ≤ p0 ∧ p0 ≤ 65535) (hcb : 1 ≤ c ∧ c ≤ 60000) (e2 : Int.tmod (IntKind.wrap .i64 p0) 32 = ((p0.toNat % 32 : Nat) : Int)) (w : List Int) (hasc : ascB 0 w = true) (hl : w.length = 32)
  (hget : ∀ (i : Nat) (h : i < w.length), w[i] = c + i) (hmem' : ∀ x, x ∈ w → c ≤ x ∧ x < c + 32) (i : Int) (d : Bool) (hi : okI .i64 i) (hic : p1.Level ≠ 0 → i = c + 32) :
  brokerlaw15_InboundFull_j10 p0 p1 (pubI i d p1) w = some true := by
 have hr : p0.toNat % 32 < 32 := Nat.mod_lt _ (by omega)
 have hp := pubI_good (d := d) hi hm
 unfold brokerlaw15_InboundFull_j10
 simp only [ref_PCheck_eq _ hp, awake15, cn_bind, e2]
 by_cases hk : checkP (pubI i d p1) = 0
 ·rw [cond_f (by simp [hk]), accept_eq (api_Inbox.mk w) (pubI i d p1) hp hasc (by show w.length ≤ 1000; omega), cn_bind]
  obtain ⟨hlev, hid⟩ := pub_facts hk rfl
  have hlev : p1.Level = 0 ∨ p1.Level = 1 ∨ p1.Level = 2 := hlev
  have ek : ((pubI i d p1).Kind == 3) = true := rfl
  by_cases h2 : p1.Level = 2
  ·rw [cond_f (by simp [h2])]
   have hx : p0.toNat % 32 < w.length := by omega
   rw [cond_t (inr hx), getD_nat hx, hget]
   obtain ⟨j, hj⟩ : ∃ j, j = c + ((p0.toNat % 32 : Nat) : Int) := ⟨_, rfl⟩
   rw [← hj]
   have hjb : 1 ≤ j ∧ j ≤ 65535 := by omega
   have hp2 : (pubI j d p1).good := pubI_good (okI_lit (by omega) (by omega)) hm
   show Option.bind (inbound_Accept (api_Inbox.mk w) (pubI j d p1)) _ = _
   rw [accept_eq (api_Inbox.mk w) (pubI j d p1) hp2 hasc (by show w.length ≤ 1000; omega), cn_bind, cn_t]
   have hk2 : checkP (pubI j d p1) = 0 := by
    rw [pubI_check] at hk ⊢
    unfold publishE at hk ⊢
    have q1 : (pubI i d p1).Message = p1 := rfl
    have q2 : (pubI j d p1).Message = p1 := rfl
    rw [q1] at hk
    rw [q2]
    cases hcm : checkM p1 == 0 with
    | false => rw [hcm] at hk; exact hk
    | true =>
     rw [cn_t, cond_f (by simp [h2])]
     unfold identE
     rw [show (pubI j d p1).ID = j from rfl, rng_true.2 hjb]; rfl
   have n1 : w.contains (pubI i d p1).ID = false := by
    rw [← Bool.not_eq_true, List.contains_iff_mem, show (pubI i d p1).ID = i from rfl]
    intro hmem
    have := hmem' i hmem
    have := hic (by omega)
    omega
   have n2 : w.contains (pubI j d p1).ID = true := by
    rw [List.contains_iff_mem, show (pubI j d p1).ID = j from rfl, hj, ← hget _ hx]
    exact List.getElem_mem hx
   have a1 : accP w (pubI i d p1) = (zeroB, false, [], 6) := by
    unfold accP
    rw [ek, cn_t, cond_t (by simp [hk]), n1]
    rw [show (pubI i d p1).Message.Level = 2 from h2]
    rw [cond_f (by decide), cond_f (by decide), cn_f, cond_t (by simp [hl])]
   have a2 : accP w (pubI j d p1) = (api_Inbox.mk w, false, [kindP 5 j], 0) := by
    unfold accP
    rw [show ((pubI j d p1).Kind == 3) = true from rfl, cn_t, cond_t (by simp [hk2]), n2]
    rw [show (pubI j d p1).Message.Level = 2 from h2]
    rfl
   rw [a1, a2]
   rfl
  ·rw [cond_t (by simpa using h2), cn_t]
   have a1 : (accP w (pubI i d p1)).2.1 = true ∧ (accP w (pubI i d p1)).2.2.2 = 0 := by
    unfold accP
    rw [ek, cn_t, cond_t (by simp [hk])]
    rcases hlev with q | q | q
    ·rw [show (pubI i d p1).Message.Level = 0 from q]; exact ⟨rfl, rfl⟩
    ·rw [show (pubI i d p1).Message.Level = 1 from q]; exact ⟨rfl, rfl⟩
    ·exact absurd q h2
   rw [show (accP (api_Inbox.mk w).IDs (pubI i d p1)) = accP w (pubI i d p1) from rfl, a1.1, a1.2]
   rfl
 ·rw [cond_t (by simpa using hk)]
theorem brokerlaw15_InboundFull_law (p0 : Int) (p1 : api_Message) (p2 : Bool) (g0 : D.okL [.int .u16] ([D.int .u16 p0])) (g1 : D.okL api_Message.ks (api_Message.enc p1)) (g2 : D.okL [.bool] ([D.bool p2])) : brokerlaw15_InboundFull p0 p1 p2 = some true := by
 have hm := api_Message.good_of g1
 obtain ⟨N, hN⟩ : ∃ N : Nat, N = 32 := ⟨32, rfl⟩
 have h0 : 0 ≤ p0 ∧ p0 ≤ 65535 := by
  have := g0.1.2
  simp only [Lit.wf, IntKind.min, IntKind.max, IntKind.signed, IntKind.bits, Bool.and_eq_true, decide_eq_true_eq] at this
  simp at this; omega
 have ew : IntKind.wrap .i64 p0 = p0 := by rw [IntKind.wrap_i64]; omega
 have et : ∀ k : Int, 0 < k → Int.tmod p0 k = p0 % k := fun k _ => Int.tmod_eq_emod_of_nonneg h0.1
 have e1 : Int.tmod (IntKind.wrap .i64 p0) 60000 = p0 % 60000 := by rw [ew, et _ (by decide)]
 have e2 : Int.tmod (IntKind.wrap .i64 p0) 32 = ((p0.toNat % 32 : Nat) : Int) := by rw [ew, et _ (by decide)]; omega
 obtain ⟨c, hc⟩ : ∃ c, c = 1 + p0 % 60000 := ⟨_, rfl⟩
 have hcb : 1 ≤ c ∧ c ≤ 60000 := by omega
 have e3 : IntKind.wrap .i64 (1 + p0 % 60000) = c := by rw [IntKind.wrap_i64]; omega
 have hr : p0.toNat % 32 < 32 := Nat.mod_lt _ (by omega)
 have hasc : ascB 0 (upI c N) = true := up_asc c hcb.1 N (by omega)
 have hl := up_len c N
 have main : ∀ (w : List Int) (hw : w = upI c N) (i : Int) (d : Bool), okI .i64 i → (p1.Level ≠ 0 → i = c + 32) → brokerlaw15_InboundFull_j10 p0 p1 (pubI i d p1) w = some true := by
  intro w hw i d hi hic
  exact full_main hm h0 hcb e2 w (by rw [hw]; exact hasc) (by rw [hw, hl, hN]) (fun i h => by subst hw; exact up_get c N i h) (fun x hx => by rw [hw] at hx; have := up_mem c N x hx; omega) i d hi hic
 unfold brokerlaw15_InboundFull
 have := loop_nat0 (n := 32) (F := fun fu i (w : List Int) => brokerlaw15_InboundFull_l3 fu p0 p2 i p1 w) (G := fun _ _ => some true) (fun i w => w = upI c i)
  (fun fu w hw => by
   have hw : w = upI c N := by rw [hN]; exact hw
   have hx : 0 < w.length := by rw [hw, hl]; omega
   have e4 : List.getD w (Int.toNat 0) default = c := by
    have := getD_nat (l := w) (i := 0) hx
    rw [show ((0 : Nat) : Int) = 0 from rfl] at this
    rw [this]
    have q : ∀ (v : List Int) (h : 0 < v.length), v = upI c N → v[0] = c := fun v h e => by subst e; rw [up_get]; simp
    exact q w hx hw
   rw [brokerlaw15_InboundFull_l3, cond_f (by simp), cond_t (by simp; exact hx), e4]
   by_cases hz : p1.Level = 0
   ·rw [cond_t (by simpa using hz)]
    exact main w hw 0 false (okI_lit (by decide) (by decide)) (fun h => absurd hz h)
   ·rw [cond_f (by simpa using hz), show IntKind.wrap .i64 (c + 32) = c + 32 by rw [IntKind.wrap_i64]; omega]
    exact main w hw (c + 32) p2 (okI_lit (by omega) (by omega)) (fun _ => rfl))
  (fun fu i w hi hw ih => by
   subst hw
   have hli := up_len c i
   rw [brokerlaw15_InboundFull_l3, cond_t (by simp; omega), e1, e3, show IntKind.wrap .i64 (c + (i : Int)) = c + i by rw [IntKind.wrap_i64]; omega, cond_t (by simp [hli]; omega), w64_succ (by omega)]
   exact ih _ rfl) (by omega) [] rfl
 exact this
end Md
end PX
