import Derived.Test.YthjloglncbnhfaaGreatDoorClD
set_option linter.unusedVariables false
set_option linter.unusedSimpArgs false
namespace PX
open Go
namespace Md
theorem arK (l : List aA) (h : ∀ p ∈ l, p.good) (hl : l.length ≤ 3000) : j5 l l = some true := by
 unfold j5
 rw [aS (by simp)]
 exact pV (l := l) (F := fun fu i (_ : Unit) => eU fu l l i) (g := fun _ _ => some true) (fun _ _ => True)
  (fun fu a _ => by rw [eU, aS (by simp)])
  (fun fu i a hi _ ih => by
   rw [eU, aM (gX hi)]
   simp only [aM (inr hi), cB hi]
   rw [ads _ _ (h _ (List.getElem_mem hi)), bN (by omega)]
   simp only [decide_true, bC, Bool.not_true, bO]
   exact ih () trivial) (by omega) () trivial
theorem ap9 (l : List aB) (h : ∀ m ∈ l, m.Props.length ≤ 1000) (hl : l.length ≤ 3000) : g7 l l = some true := by
 unfold g7
 rw [aS (by simp)]
 exact pV (l := l) (F := fun fu i (_ : Unit) => eL fu l l i) (g := fun _ _ => some true) (fun _ _ => True)
  (fun fu a _ => by rw [eL, aS (by simp)])
  (fun fu i a hi _ ih => by
   rw [eL, aM (gX hi)]
   simp only [aM (inr hi), cB hi]
   rw [vK _ _ (by have := h _ (List.getElem_mem hi); omega), bN (by omega)]
   simp only [decide_true, bC, Bool.not_true, bO]
   exact ih () trivial) (by omega) () trivial
theorem auQ (last : List aA) (e : Int) (s z : brokerref51_State) (c : client_Client) (L : List aA) (M : List aB) (hL : ∀ p ∈ L, p.good) (hl : L.length ≤ 3000) (hM : ∀ m ∈ M, m.Props.length ≤ 1000) (hm : M.length ≤ 3000) :
  dH last e e s z c L L M M = some (s, if L.length = 0 then last else L, true, c) := by
 unfold dH
 rw [arK L hL hl, ap9 M hM hm]
 have he : (e == e) = true := by simp
 rw [he]
 cases L with
 | nil => rfl
 | cons a t =>
  have h0 : (((a :: t).length : Int) == 0) = false := by simp; omega
  rw [h0]; rfl
def PO (o : aF) : Prop := o.Message.Props.length ≤ 1000 ∧ o.Will.Message.Props.length ≤ 1000 ∧ o.Packet.Message.Props.length ≤ 1000
theorem at6 (p : aA) (b : Bool) (h : okI .i64 p.ID) : ∃ q, pK p b = some q ∧ q.good ∧ q.Message.Props.length ≤ 1000 := by
 have z : okI .i64 0 := gR (by decide) (by decide)
 have e : okS [] := tZ (by simp)
 have l : ∀ k : Int, 0 ≤ k → k < 100 → okI .i64 k := fun k h0 h1 => gR h0 (by omega)
 unfold pK
 cases p.Kind == 1 with
 | true => exact ⟨_, rfl, ⟨l 2 (by decide) (by decide), z, gA, e, e, z, z, z, ⟨z, gA⟩, z, dE, dE, dE⟩, Nat.zero_le _⟩
 | false =>
  cases p.Kind == 3 with
  | true =>
   cases p.Message.Level == 1 with
   | true => exact ⟨_, rfl, ⟨l 4 (by decide) (by decide), h, gA, e, e, z, z, z, ⟨z, gA⟩, z, dE, dE, dE⟩, Nat.zero_le _⟩
   | false => exact ⟨_, rfl, ⟨l 5 (by decide) (by decide), h, gA, e, e, z, z, z, ⟨z, gA⟩, z, dE, dE, dE⟩, Nat.zero_le _⟩
  | false =>
   cases p.Kind == 6 with
   | true => exact ⟨_, rfl, ⟨l 7 (by decide) (by decide), h, gA, e, e, z, z, z, ⟨z, gA⟩, z, dE, dE, dE⟩, Nat.zero_le _⟩
   | false =>
    cases p.Kind == 8 with
    | true => exact ⟨_, rfl, ⟨l 9 (by decide) (by decide), h, gA, e, e, z, z, z, ⟨z, gA⟩, z, dE, dE, ⟨by simp, fun x hx => by rw [List.mem_singleton] at hx; rw [hx]; exact z⟩⟩, Nat.zero_le _⟩
    | false => exact ⟨_, rfl, ⟨l 13 (by decide) (by decide), z, gA, e, e, z, z, z, ⟨z, gA⟩, z, dE, dE, dE⟩, Nat.zero_le _⟩
structure Step (A : Option (brokerref51_State × (List aA) × Bool × client_Client)) : Prop where
 ex : ∃ c' l, A = some (stOf c', l, true, c') ∧ LOK c' ∧ (∀ p ∈ l, p.good) ∧ l.length ≤ 3000
theorem abg {c : client_Client} {last L : List aA} {M : List aB} (h : LOK c) (hl : ∀ p ∈ last, p.good) (hll : last.length ≤ 3000) (hL : ∀ p ∈ L, p.good) (hLl : L.length ≤ 3000) (hM : ∀ m ∈ M, m.Props.length ≤ 1000) (hm : M.length ≤ 3000) (e : Int) (z : brokerref51_State) :
  Step (dH last e e (stOf c) z c L L M M) := by
 rw [auQ last e (stOf c) z c L M hL hLl hM hm]
 refine ⟨c, _, rfl, h, ?_, ?_⟩
 ·split <;> assumption
 ·split <;> assumption
theorem aqB {c : client_Client} {last : List aA} (h : LOK c) (hl : ∀ p ∈ last, p.good) (hll : last.length ≤ 3000) (p : aA) (g : p.good) (hp : p.Message.Props.length ≤ 1000) (z : brokerref51_State) : Step (gM last (stOf c) z p c) := by
 obtain ⟨c', L, M, e, e1, e2, h1, h2, h3, h4⟩ := (aqA h p g hp).ex
 unfold gM
 rw [e1, e2]
 simp only [bC]
 refine abg h1 hl hll h2 (by omega) (fun m hm => ?_) ?_ e z
 ·rcases h4 with h4 | h4 <;> rw [h4] at hm
  ·cases hm
  ·rw [List.mem_singleton] at hm; rw [hm]; exact hp
 ·rcases h4 with h4 | h4 <;> rw [h4] <;> simp
theorem aum {c : client_Client} {last : List aA} (h : LOK c) (hl : ∀ p ∈ last, p.good) (hll : last.length ≤ 3000) (o : aF) (g : o.good) (hp : PO o) : Step (qX c (stOf c) o last) := by
 have z : okI .i64 0 := gR (by decide) (by decide)
 have e : okS [] := tZ (by simp)
 have none : Step (some (stOf c, last, true, c)) := ⟨c, last, rfl, h, hl, hll⟩
 have nop := abg (L := []) (M := []) h hl hll (by simp) (by simp) (by simp) (by simp) 0 z51
 unfold qX
 cases k1 : o.Kind == 1 with
 | true =>
  obtain ⟨c', L, e, e1, e2, h1, h2, h3⟩ := aqJ h o.Flag o.Will g.2.2.1 hp.2.1
  rw [bV, e1, e2]
  exact abg (M := []) h1 hl hll h2 (by omega) (by simp) (by simp) e z51
 | false =>
  cases k2 : o.Kind == 2 with
  | true =>
   obtain ⟨c', L, e, e1, e2, h1, h2, h3⟩ := aqK h o.Message g.2.2.2.2.1 hp.1
   rw [bO, bV, e1, e2]
   exact abg (M := []) h1 hl hll h2 (by omega) (by simp) (by simp) e z51
  | false =>
   cases k3 : o.Kind == 3 with
   | true =>
    obtain ⟨c', L, e, e1, e2, h1, h2, h3⟩ := amm h ((aA.mk 8 0 false (aB.mk ([] : Str) ([] : Str) 0 false 0 0 ([] : Str) 0 ([] : List aE)) ([] : Str) ([] : Str) false 0 0 0 (aT.mk false 0 (aB.mk ([] : Str) ([] : Str) 0 false 0 0 ([] : Str) 0 ([] : List aE))) false 0 [o.Sub] ([] : List Str) ([] : List Int)))
     ⟨gR (x := 8) (by decide) (by decide), z, gA, e, e, z, z, z, ⟨z, gA⟩, z, ⟨by simp, fun x hx => by rw [List.mem_singleton] at hx; rw [hx]; exact g.2.2.2.1⟩, dE, dE⟩
    unfold kX oU
    rw [bO, bO, bV, e1, e2]
    exact abg (M := []) h1 hl hll h2 (by omega) (by simp) (by simp) _ z51
   | false =>
    cases k4 : o.Kind == 4 with
    | true =>
     obtain ⟨c', L, e, e1, e2, h1, h2, h3⟩ := amm h ((aA.mk 10 0 false (aB.mk ([] : Str) ([] : Str) 0 false 0 0 ([] : Str) 0 ([] : List aE)) ([] : Str) ([] : Str) false 0 0 0 (aT.mk false 0 (aB.mk ([] : Str) ([] : Str) 0 false 0 0 ([] : Str) 0 ([] : List aE))) false 0 ([] : List aN) [o.Sub.Filter] ([] : List Int)))
      ⟨gR (x := 10) (by decide) (by decide), z, gA, e, e, z, z, z, ⟨z, gA⟩, z, dE, ⟨by simp, fun x hx => by rw [List.mem_singleton] at hx; rw [hx]; exact g.2.2.2.1.1⟩, dE⟩
     unfold j3 nE
     rw [bO, bO, bO, bV, e1, e2]
     exact abg (M := []) h1 hl hll h2 (by omega) (by simp) (by simp) _ z51
    | false =>
     have k7 : Step (cond (o.Kind == 7) (
   cond (decide (o.N < 0)) (
    some (stOf c, last, true, c)) (
   cond (decide (o.N ≥ (List.length last : Int))) (
    some (stOf c, last, true, c)) (
   jX last (stOf c) o z51 o.Packet c))) (
  gM last (stOf c) z51 o.Packet c)) := by
      cases o.Kind == 7 with
      | false => exact aqB h hl hll o.Packet g.2.2.2.2.2 hp.2.2 z51
      | true =>
       rw [bV]
       by_cases n0 : o.N < 0
       ·rw [aM (decide_eq_true n0)]; exact none
       ·rw [aS (decide_eq_false n0)]
        by_cases n1 : o.N ≥ (List.length last : Int)
        ·rw [aM (decide_eq_true n1)]; exact none
        ·rw [aS (decide_eq_false n1)]
         obtain ⟨i, hi⟩ := Int.eq_ofNat_of_zero_le (Int.not_lt.1 n0)
         have hlt : i < last.length := by omega
         unfold jX
         rw [hi, aM (inr hlt), cB hlt]
         obtain ⟨q, e1, g1, g2⟩ := at6 last[i] o.Flag (hl _ (List.getElem_mem hlt)).2.1
         rw [e1, bC]
         exact aqB h hl hll q g1 g2 z51
     cases k5 : o.Kind == 5 with
     | true => rw [bO, bO, bO, bO, bV]; exact k7
     | false =>
      cases k77 : o.Kind == 7 with
      | true => rw [k77] at k7; rw [bO, bO, bO, bO, bO, bV]; exact k7
      | false =>
       cases k6 : o.Kind == 6 with
       | true =>
        rw [bO, bO, bO, bO, bO, bO, bV]
        exact abg (c := qP c 0) (L := []) (M := []) ⟨h.toCOK.ws 0, h.l1⟩ hl hll (by simp) (by simp) (by simp) (by simp) 0 z51
       | false => rw [bO, bO, bO, bO, bO, bO, bO]; exact nop
end Md
end PX
set_option linter.unusedVariables false
set_option linter.unusedSimpArgs false
namespace PX
open Go
namespace Md
theorem aiB (m : aB) (h : m.Props.length ≤ 140737488351232) : ∃ b, g4 m = some b ∧ (b = true → m.Props.length ≤ 1000) := by
 have key : ∀ (k i fu : Nat), i + k = m.Props.length → k < fu → ∃ b, gN fu (i : Int) m = some b := by
  intro k
  induction k with
  | zero =>
   intro i fu hi hk
   obtain ⟨fu, rfl⟩ : ∃ n, fu = n + 1 := ⟨fu - 1, by omega⟩
   rw [gN, aS (l5 (by omega))]; exact ⟨_, rfl⟩
  | succ k ih =>
   intro i fu hi hk
   obtain ⟨fu, rfl⟩ : ∃ n, fu = n + 1 := ⟨fu - 1, by omega⟩
   have hlt : i < m.Props.length := by omega
   rw [gN, aM (gX hlt)]
   simp only [aM (inr hlt), cB hlt]
   rw [bN (by omega)]
   cases decide ((List.length m.Props[i].Key : Int) > 5000) with
   | true => exact ⟨_, rfl⟩
   | false =>
    cases decide ((List.length m.Props[i].Value : Int) > 5000) with
    | true => exact ⟨_, rfl⟩
    | false => exact ih (i + 1) fu (by omega) (by omega)
 obtain ⟨b, hb⟩ := key m.Props.length 0 fuel (by omega) (by unfold fuel; omega)
 have hb : gN fuel 0 m = some b := hb
 unfold g4 p7
 rw [hb]
 cases decide ((List.length m.Topic : Int) > 5000) with
 | true => exact ⟨_, rfl, by simp⟩
 | false =>
  cases decide ((List.length m.Payload : Int) > 5000) with
  | true => exact ⟨_, rfl, by simp⟩
  | false =>
   cases decide ((List.length m.From : Int) > 5000) with
   | true => exact ⟨_, rfl, by simp⟩
   | false =>
    cases hp : decide ((List.length m.Props : Int) > 20) with
    | true => exact ⟨_, rfl, by simp⟩
    | false => exact ⟨b, rfl, fun _ => by have := of_decide_eq_false hp; omega⟩
theorem atW (l : List aF) (h : okL aF.good l) : ∃ b, pL l = some b ∧ (b = true → ∀ o ∈ l, PO o) := by
 have key : ∀ (k i fu : Nat), i + k = l.length → k < fu → ∃ b, iI fu l (i : Int) = some b ∧ (b = true → ∀ o ∈ l.drop i, PO o) := by
  intro k
  induction k with
  | zero =>
   intro i fu hi hk
   obtain ⟨fu, rfl⟩ : ∃ n, fu = n + 1 := ⟨fu - 1, by omega⟩
   rw [iI, aS (l5 (by omega))]; exact ⟨_, rfl, fun _ o ho => by rw [List.drop_eq_nil_of_le (by omega)] at ho; cases ho⟩
  | succ k ih =>
   intro i fu hi hk
   obtain ⟨fu, rfl⟩ : ∃ n, fu = n + 1 := ⟨fu - 1, by omega⟩
   have hlt : i < l.length := by omega
   have hl := h.1
   have g := h.2 _ (List.getElem_mem hlt)
   rw [iI, aM (gX hlt)]
   simp only [aM (inr hlt), cB hlt]
   rw [bN (by omega)]
   obtain ⟨b1, e1, f1⟩ := aiB l[i].Message g.2.2.2.2.1.2.2.2.2.2.2.2.1
   obtain ⟨b2, e2, f2⟩ := aiB l[i].Will.Message g.2.2.1.2.2.2.2.2.2.2.2.1
   obtain ⟨b3, e3, f3⟩ := aiB l[i].Packet.Message g.2.2.2.2.2.2.2.1.2.2.2.2.2.2.2.1
   obtain ⟨b4, e4, f4⟩ := aiB l[i].Packet.Will.Message g.2.2.2.2.2.2.2.2.2.2.2.2.2.1.2.2.2.2.2.2.2.2.1
   rw [e1, e2, e3, e4]
   simp only [bC]
   have no : ∃ b, some false = some b ∧ (b = true → ∀ o ∈ l.drop i, PO o) := ⟨_, rfl, by simp⟩
   cases decide ((i : Int) ≥ 40) with
   | true => exact no
   | false =>
    cases b1 with
    | false => exact no
    | true =>
     cases b2 with
     | false => exact no
     | true =>
      cases b3 with
      | false => exact no
      | true =>
       cases b4 with
       | false => exact no
       | true =>
        cases decide ((List.length l[i].Sub.Filter : Int) > 5000) with
        | true => exact no
        | false =>
         cases decide ((List.length l[i].Packet.Subs : Int) > 40) with
         | true => exact no
         | false =>
          cases decide ((List.length l[i].Packet.Filters : Int) > 40) with
          | true => exact no
          | false =>
           cases decide ((List.length l[i].Packet.Codes : Int) > 40) with
           | true => exact no
           | false =>
            obtain ⟨b, e, f⟩ := ih (i + 1) fu (by omega) (by omega)
            refine ⟨b, e, fun hb o ho => ?_⟩
            rw [List.drop_eq_getElem_cons hlt] at ho
            rcases List.mem_cons.1 ho with rfl | ho
            ·exact ⟨f1 rfl, f2 rfl, f3 rfl⟩
            ·exact f hb o ho
 have hl := h.1
 obtain ⟨b, e, f⟩ := key l.length 0 fuel (by omega) (by unfold fuel; omega)
 exact ⟨b, e, f⟩
end Md
end PX
set_option linter.unusedVariables false
set_option linter.unusedSimpArgs false
namespace PX
open Go
namespace Md
theorem apm (l : List aF) (h : okL aF.good l) (hp : ∀ o ∈ l, PO o) : ∀ (k i fu : Nat) (c : client_Client) (last : List aA), i + k = l.length → k < fu → LOK c → (∀ p ∈ last, p.good) → last.length ≤ 3000 → eM fu l last (i : Int) c (stOf c) = some true := by
 intro k
 induction k with
 | zero =>
  intro i fu c last hi hk hc hl hll
  obtain ⟨fu, rfl⟩ : ∃ n, fu = n + 1 := ⟨fu - 1, by omega⟩
  rw [eM, aS (l5 (by omega)), alu]; rfl
 | succ k ih =>
  intro i fu c last hi hk hc hl hll
  obtain ⟨fu, rfl⟩ : ∃ n, fu = n + 1 := ⟨fu - 1, by omega⟩
  have hlt : i < l.length := by omega
  have hn := h.1
  obtain ⟨c', l', e, h1, h2, h3⟩ := (aum hc hl hll l[i] (h.2 _ (List.getElem_mem hlt)) (hp _ (List.getElem_mem hlt))).ex
  rw [eM, aM (gX hlt), aM (inr hlt), cB hlt, e, bN (by omega)]
  unfold gD eP uL
  simp only [bC]
  have q1 : ((c'.state == 2) != ((stOf c').Phase == 2)) = false := by simp [stOf]
  have q2 : (IntKind.wrap .i64 ((List.length c'.out.Items : Int) + (List.length c'.waiting : Int)) != IntKind.wrap .i64 ((List.length (stOf c').Out.Items : Int) + (List.length (stOf c').Waiting : Int))) = false := by simp [stOf]
  simp only [Bool.not_true, bO, q1, q2]
  exact ih (i + 1) fu c' l' (by omega) (by omega) h1 h2 h3
theorem abx (p0 : Str) (p1 : Int) (p2 : (List aF)) (g0 : D.okL [.str] ([D.str p0])) (g1 : D.okL [.int .i64] ([D.int .i64 p1])) (g2 : D.okL [.sl aF.ks] ([D.sl aF.ks (List.map aF.enc p2)])) : nF p0 p1 p2 = some true := by
 have g : okL aF.good p2 := gW (fun _ => aF.eH) g2.1
 have hn := g.1
 obtain ⟨b, eb, fb⟩ := atW p2 g
 unfold nF
 rcases au6 (s := p0) g0.1 p1 with ⟨e, he, e1, e2⟩ | ⟨hn', h0, h1, e1, e2⟩
 ·rw [e1, e2, atz]
  simp only [bC, alu]
  have q1 : (e != e) = false := by simp
  have q3 : (e != 0) = true := by simpa using he
  simp only [q1, q3, bO, bV]
 ·rw [e1, e2, atx, eb]
  have z0 : ((0 : Int) != 0) = false := rfl
  simp only [bC, alu, z0, bO]
  cases b with
  | false => simp only [Bool.not_false, bV]
  | true =>
   simp only [Bool.not_true, bO]
   exact apm p2 g (fb rfl) p2.length 0 fuel (anr p0 p1) [] (by omega) (by unfold fuel; omega) (atM g0.1 h0 h1) (by simp) (by simp)
end Md
end PX
