import Derived.Test.YthjloglncbnhfaaGreatDoorClF
set_option linter.unusedVariables false
set_option linter.unusedSimpArgs false
namespace PX
open Go
namespace Md
def awc (d : Bool) (I : List aC) : List aA := I.map fun f => ady f.ID d f.Message
theorem awt (k23 : Int → Int → Int → client_Client → (List aB) → Option (Bool)) (x0 x2 x14 x116 x118 : Int) (x119 : Bool) (x134 x136 : Int) (x137 : Bool) (x141 x142 : Int) (x143 : Bool) (c : client_Client) (I : List aC) (W : List aB) (hl : I.length ≤ 1000) (hw : W.length ≤ 1000)
  (hp : ∀ f ∈ I, f.Message.Props.length ≤ 1000) :
  kH fuel k23 x0 x2 x14 0 x116 x118 x119 x134 x136 x137 x141 x142 x143 c (I.map (·.Message) ++ W) (awc (decide (x14 > 0)) I) = k23 x0 x2 (IntKind.wrap .i64 (x14 + 1)) c (I.map (·.Message) ++ W) := by
 have key : ∀ (k i fu : Nat), i + k = I.length → k < fu → kH fu k23 x0 x2 x14 (i : Int) x116 x118 x119 x134 x136 x137 x141 x142 x143 c (I.map (·.Message) ++ W) (awc (decide (x14 > 0)) I) = k23 x0 x2 (IntKind.wrap .i64 (x14 + 1)) c (I.map (·.Message) ++ W) := by
  have hq : (awc (decide (x14 > 0)) I).length = I.length := by simp [awc]
  intro k
  induction k with
  | zero =>
   intro i fu hi hk
   obtain ⟨fu, rfl⟩ : ∃ n, fu = n + 1 := ⟨fu - 1, by omega⟩
   rw [kH, aS (l5 (by rw [hq]; omega))]
  | succ k ih =>
   intro i fu hi hk
   obtain ⟨fu, rfl⟩ : ∃ n, fu = n + 1 := ⟨fu - 1, by omega⟩
   have hlt : i < I.length := by omega
   have h1 : i < (awc (decide (x14 > 0)) I).length := by rw [hq]; exact hlt
   have h2 : i < (I.map (·.Message) ++ W).length := by simp; omega
   have e1 : (awc (decide (x14 > 0)) I)[i] = ady I[i].ID (decide (x14 > 0)) I[i].Message := by simp [awc]
   have e2 : (I.map (·.Message) ++ W)[i] = I[i].Message := by rw [List.getElem_append_left (by simpa using hlt)]; simp
   rw [kH, aM (gX h1)]
   simp only [aM (inr h1), aM (inr h2), cB h1, cB h2, e1, e2]
   rw [bN (by omega)]
   have e3 : iG (ady I[i].ID (decide (x14 > 0)) I[i].Message).Message I[i].Message = some true := by
    rw [vK _ _ (by have := hp _ (List.getElem_mem hlt); show I[i].Message.Props.length < _; omega)]
    show some (decide (I[i].Message = I[i].Message)) = _
    rw [decide_eq_true rfl]
   have e4 : ((ady I[i].ID (decide (x14 > 0)) I[i].Message).Dup != decide (x14 > 0)) = false := by simp [ady]
   have e5 : ((ady I[i].ID (decide (x14 > 0)) I[i].Message).Kind != 3) = false := rfl
   rw [e3, e4, e5]
   simp only [bC, bO, Bool.not_true]
   exact ih (i + 1) fu (by omega) (by omega)
 exact key I.length 0 fuel (by omega) (by unfold fuel; omega)
structure RI (n : Int) (K : List aB) (c : client_Client) (first : Bool) : Prop where
 ok : LOK c
 name : c.name = [97]
 lim : c.out.Limit = n
 all : c.out.Items.map (·.Message) ++ c.waiting = K
 st : ∀ f ∈ c.out.Items, f.State = 1
 le : (c.out.Items.length : Int) ≤ n
 zero : first = true → c.out.Items = []
 full : first = false → (c.out.Items.length : Int) = n ∨ c.waiting = []
theorem awr (t n : Int) (ht : t ≤ 3) (hn : 1 ≤ n) (x2 : Int) (hx : IntKind.wrap .i64 (Int.tmod x2 4) = t) (K : List aB) (hK : K.length ≤ 100) (hv : ∀ m ∈ K, m.Level ≠ 0) : ∀ (k : Nat) (i fu : Nat) (c : client_Client), t + 1 ≤ i + k → i ≤ 4 → k < fu → RI n K c (decide (i = 0)) → kC fu n x2 (i : Int) c K = some true := by
 intro k
 induction k with
 | zero =>
  intro i fu c hi hi4 hk h
  obtain ⟨fu, rfl⟩ : ∃ n, fu = n + 1 := ⟨fu - 1, by omega⟩
  rw [kC, hx, aS (decide_eq_false (by omega)), alu]; rfl
 | succ k ih =>
  intro i fu c hi hi4 hk h
  obtain ⟨fu, rfl⟩ : ∃ n, fu = n + 1 := ⟨fu - 1, by omega⟩
  rw [kC, hx]
  by_cases hit : (i : Int) ≤ t
  ·rw [aM (decide_eq_true hit)]
   have htot := h.ok.tot
   have hil := h.ok.out.len
   have c0 : LOK (qP c 0) := ⟨h.ok.toCOK.ws 0, h.ok.l1⟩
   have c1 : LOK (qP c 1) := ⟨h.ok.toCOK.ws 1, h.ok.l1⟩
   have e1 := awo c0 rfl (by show sY c.name = true; rw [h.name]; rfl)
   have e1' : fP (client_Client.mk c.name 0 c.out c.in_ c.waiting c.count c.last) false (aT.mk false 0 (aB.mk ([] : Str) ([] : Str) 0 false 0 0 ([] : Str) 0 ([] : List aE))) = some ([awf c.name c.out.Limit], 0, qP c 1) := e1
   have e2 := awn c1 rfl
   have hall := h.all
   have hvw : ∀ m ∈ c.waiting, m.Level ≠ 0 := fun m hm => hv m (by rw [← hall]; exact List.mem_append_right _ hm)
   obtain ⟨c', F, f1, f2, f3, f4, f5, f6, f7, f8⟩ := aws c.waiting (qP c 2) (c.out.Items.map kQ) fuel rfl (by unfold fuel; omega) (h.ok.toCOK.ws 2) rfl hvw (by show (c.out.Items.length : Int) ≤ c.out.Limit; rw [h.lim]; exact h.le) (by rw [List.length_map]; omega)
   have f1' : cK (qP c 2) (c.out.Items.map kQ) = some (c.out.Items.map kQ ++ F.map (fun f => ady f.ID false f.Message), c') := f1
   have e2' : dX (qP c 1) awe = some (c.out.Items.map kQ ++ F.map (fun f => ady f.ID false f.Message), [], 0, c') := by
    rw [e2]
    show Option.bind (cK (qP c 2) (c.out.Items.map kQ)) _ = _
    rw [f1']; rfl
   unfold o7
   rw [bC, e1']
   simp only [bC]
   rw [aS (by rfl)]
   have e2'' : dX (qP c 1) (aA.mk 2 0 false (aB.mk ([] : Str) ([] : Str) 0 false 0 0 ([] : Str) 0 ([] : List aE)) ([] : Str) ([] : Str) false 0 0 0 (aT.mk false 0 (aB.mk ([] : Str) ([] : Str) 0 false 0 0 ([] : Str) 0 ([] : List aE))) true 0 ([] : List aN) ([] : List Str) ([] : List Int)) = _ := e2'
   rw [e2'']
   simp only [bC]
   rw [aS (by rfl)]
   unfold eP
   have lim' : c'.out.Limit = n := by rw [f6.1]; exact h.lim
   have f2' : c'.out.Items = c.out.Items ++ F := f2
   have all' : c'.out.Items.map (·.Message) ++ c'.waiting = K := by rw [f2', List.map_append, List.append_assoc, f4]; exact hall
   have len' : c'.out.Items.length + c'.waiting.length = K.length := by rw [← all']; simp
   have hleft : IntKind.wrap .i64 ((List.length c'.out.Items : Int) + (List.length c'.waiting : Int)) = (K.length : Int) := by rw [w64 (by omega) (by omega)]; omega
   have st' : ∀ f ∈ c'.out.Items, f.State = 1 := fun f hf => by
    rw [f2'] at hf
    rcases List.mem_append.1 hf with hf | hf
    ·exact h.st f hf
    ·exact f3 f hf
   have le' : (c'.out.Items.length : Int) ≤ n := by rw [← lim']; exact f7
   have full' : (c'.out.Items.length : Int) = n ∨ c'.waiting = [] := by rw [← lim']; exact f8
   have hq : c.out.Items.map kQ ++ F.map (fun f => ady f.ID false f.Message) = awc (decide ((i : Int) > 0)) c'.out.Items := by
    rw [f2']
    unfold awc
    rw [List.map_append]
    by_cases hi0 : i = 0
    ·have hz := h.zero (by rw [hi0]; rfl)
     rw [hz, hi0]; rfl
    ·have hd : decide ((i : Int) > 0) = true := decide_eq_true (by omega)
     have hF : F = [] := by
      rcases h.full (by simpa using hi0) with hf | hf
      ·have : (c'.out.Items.length : Int) = c.out.Items.length + F.length := by rw [f2']; simp
       exact List.eq_nil_of_length_eq_zero (by omega)
      ·rw [hf] at f4
       exact List.map_eq_nil_iff.1 (List.append_eq_nil_iff.1 f4).1
     rw [hF, hd]
     simp only [List.map_nil, List.append_nil]
     refine List.map_congr_left fun f hf => ?_
     unfold kQ
     rw [h.st f hf]; rfl
   simp only [bC]
   rw [hleft, hq]
   have hb : ((K.length : Int) != (K.length : Int)) = false := by simp
   rw [hb, bO]
   have ql : (awc (decide ((i : Int) > 0)) c'.out.Items).length = c'.out.Items.length := by simp [awc]
   unfold oM kG
   rw [ql]
   have g1 : decide ((c'.out.Items.length : Int) > (K.length : Int)) = false := decide_eq_false (by omega)
   have g2 : decide ((c'.out.Items.length : Int) > n) = false := decide_eq_false (by omega)
   have hp' : ∀ f ∈ c'.out.Items, f.Message.Props.length ≤ 1000 := aoJ f5.out
   have hil' := f5.out.len
   have next : ∀ a116 a118 a119 a134 a136 a137 a141 a142 a143, kH fuel (kC fu) n x2 (i : Int) 0 a116 a118 a119 a134 a136 a137 a141 a142 a143 c' K (awc (decide ((i : Int) > 0)) c'.out.Items) = some true := by
    intro a116 a118 a119 a134 a136 a137 a141 a142 a143
    have := awt (kC fu) n x2 (i : Int) a116 a118 a119 a134 a136 a137 a141 a142 a143 c' c'.out.Items c'.waiting (by omega) (by omega) hp'
    rw [all'] at this
    rw [this, bN (by omega)]
    exact ih (i + 1) fu c' (by omega) (by omega) (by omega) ⟨⟨f5, by rw [lim']; exact hn⟩, by rw [f6.2.1]; exact h.name, lim', all', st', le', by simp, fun _ => full'⟩
   simp only [g1, g2, bO, next]
   by_cases hne : ((c'.out.Items.length : Int) != (K.length : Int)) = true
   ·have hz : ((c'.out.Items.length : Int) != n) = false := by
     rcases full' with q | q
     ·rw [q]; simp
     ·rw [q] at len'
      simp at len'
      have : ((c'.out.Items.length : Int) != (K.length : Int)) = false := by rw [len']; simp
      rw [this] at hne; cases hne
    rw [hne, bV, hz, bO]
   ·have hne : ((c'.out.Items.length : Int) != (K.length : Int)) = false := by simpa using hne
    rw [hne, bO]
  ·rw [aS (decide_eq_false hit), alu]; rfl
structure PI (n : Int) (K : List aB) (c : client_Client) : Prop where
 ok : LOK c
 name : c.name = [97]
 st : c.state = 0
 out : c.out = ag7 n
 wait : c.waiting = K
 cnt : c.count = (K.length : Int)
 lev : ∀ m ∈ K, m.Level ≠ 0
theorem awk (n x2 t : Int) (hn : 1 ≤ n) (ht : t ≤ 3) (hx : IntKind.wrap .i64 (Int.tmod x2 4) = t) (l : List aB) (g : okL aB.good l) (hl : l.length ≤ 20) : ∀ (k i fu : Nat) (c : client_Client) (K : List aB), i + k = l.length → k < fu → K.length ≤ i → PI n K c → iL fu n l x2 (i : Int) c K = some true := by
 intro k
 induction k with
 | zero =>
  intro i fu c K hi hk hKi h
  obtain ⟨fu, rfl⟩ : ∃ n, fu = n + 1 := ⟨fu - 1, by omega⟩
  rw [iL, aS (l5 (by omega))]
  exact awr t n ht hn x2 hx K (by omega) h.lev 4 0 fuel c (by omega) (by omega) (by unfold fuel; omega) ⟨h.ok, h.name, by rw [h.out]; rfl, by rw [h.out, h.wait]; rfl, (by rw [h.out]; intro f hf; cases hf), by rw [h.out]; show (0 : Int) ≤ n; omega, fun _ => by rw [h.out]; rfl, by simp⟩
 | succ k ih =>
  intro i fu c K hi hk hKi h
  obtain ⟨fu, rfl⟩ : ∃ n, fu = n + 1 := ⟨fu - 1, by omega⟩
  have hlt : i < l.length := by omega
  have gm := g.2 _ (List.getElem_mem hlt)
  obtain ⟨b, eb, fb⟩ := aiB l[i] gm.2.2.2.2.2.2.2.1
  rw [iL, aM (gX hlt)]
  simp only [aM (inr hlt), cB hlt]
  rw [eb, bN (i := i) (by omega), alu]
  simp only [bC]
  cases b with
  | false => rfl
  | true =>
   have hp := fb rfl
   have e1 := awm h.ok.toCOK (by rw [h.st]; decide) (by rw [h.wait]; omega) l[i] gm hp
   have em : ahX c l[i] = aB.mk l[i].Topic l[i].Payload l[i].Level l[i].Retain l[i].Priority l[i].Expires ([97] : Str) (IntKind.wrap .i64 ((List.length K : Int) + 1)) l[i].Props := by unfold ahX; rw [h.name, h.cnt]
   have hg := arP h.ok.toCOK gm
   have e2 : gC (aB.mk l[i].Topic l[i].Payload l[i].Level l[i].Retain l[i].Priority l[i].Expires ([97] : Str) (IntKind.wrap .i64 ((List.length K : Int) + 1)) l[i].Props) = some (g8 (ahX c l[i])) := by rw [← em]; exact aaC _ (uT hg)
   rw [e1, e2, ← em]
   simp only [Bool.not_true, bO, bC]
   have hb : (g8 (ahX c l[i]) != g8 (ahX c l[i])) = false := by simp
   rw [hb, bO]
   by_cases he : g8 (ahX c l[i]) = 0
   ·have hb : (g8 (ahX c l[i]) == 0) = true := by simpa using he
    rw [hb, bV, if_pos he]
    cases hlv : l[i].Level == 0 with
    | true => rfl
    | false =>
     rw [bO, aM (by simp; omega)]
     refine ih (i + 1) fu (awl c l[i]) (K ++ [ahX c l[i]]) (by omega) (by omega) (by simp; omega) ⟨⟨⟨h.ok.name, h.ok.out, h.ok.inb, fun x hx => ?_, ?_⟩, h.ok.l1⟩, h.name, h.st, h.out, ?_, ?_, fun x hx => ?_⟩
     ·have hx : x ∈ c.waiting ++ [ahX c l[i]] := hx
      rcases List.mem_append.1 hx with hx | hx
      ·exact h.ok.wait x hx
      ·rw [List.mem_singleton] at hx; rw [hx]; exact ⟨he, hg⟩
     ·show (c.waiting ++ [ahX c l[i]]).length + c.out.Items.length ≤ 288
      rw [h.out, h.wait]; show (K ++ [ahX c l[i]]).length + 0 ≤ 288
      simp; omega
     ·show c.waiting ++ [ahX c l[i]] = _
      rw [h.wait]
     ·show IntKind.wrap .i64 (c.count + 1) = _
      rw [h.cnt, bN (by omega)]; simp
     ·rcases List.mem_append.1 hx with hx | hx
      ·exact h.lev x hx
      ·rw [List.mem_singleton] at hx; rw [hx]; simpa [ahX] using hlv
   ·have hb : (g8 (ahX c l[i]) == 0) = false := by simpa using he
    rw [hb, bO, if_neg he]
    exact ih (i + 1) fu c K (by omega) (by omega) (by omega) h
theorem awd (p0 : Int) (p1 : (List aB)) (p2 : Int) (g0 : D.okL [.int .i64] ([D.int .i64 p0])) (g1 : D.okL [.sl aB.ks] ([D.sl aB.ks (List.map aB.enc p1)])) (g2 : D.okL [.int .u8] ([D.int .u8 p2])) : xH p0 p1 p2 = some true := by
 have g : okL aB.good p1 := gW (fun _ => aB.eH) g1.1
 have h2 : okI .u8 p2 := g2.1.2
 have hr : 0 ≤ p2 ∧ p2 ≤ 255 := by
  simp only [okI, Go.Lit.wf, Go.IntKind.min, Go.IntKind.max, Go.IntKind.signed, Go.IntKind.bits, Bool.and_eq_true, decide_eq_true_eq] at h2
  simp at h2; omega
 unfold xH pF pB
 rw [alu]
 simp only [bC]
 by_cases h0 : p0 < 1
 ·rw [aM (decide_eq_true h0)]
 ·rw [aS (decide_eq_false h0)]
  by_cases h1 : p0 > 32
  ·rw [aM (decide_eq_true h1)]
  ·rw [aS (decide_eq_false h1)]
   by_cases hl : (List.length p1 : Int) > 20
   ·rw [aM (decide_eq_true hl)]
   ·rw [aS (decide_eq_false hl)]
    have hs : okS ([97] : Str) := tZ (by simp)
    have ht : Int.tmod p2 4 = p2 % 4 := Int.tmod_eq_emod_of_nonneg hr.1
    rw [aww hs (by rfl) (by omega) (by omega), atx]
    rw [aS (by rfl)]
    exact awk p0 p2 _ (by omega) (by rw [ht, w64 (by omega) (by omega)]; omega) rfl p1 g (by omega) p1.length 0 fuel (anr [97] p0) [] (by omega) (by unfold fuel; omega) (Nat.le_refl _) ⟨atM hs (by omega) (by omega), rfl, rfl, rfl, rfl, rfl, by simp⟩
end Md
end PX
