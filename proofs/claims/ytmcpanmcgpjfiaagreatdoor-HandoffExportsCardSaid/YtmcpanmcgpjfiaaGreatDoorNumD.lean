import Derived.Test.YtmcpanmcgpjfiaaGreatDoorNumC
set_option linter.unusedVariables false
set_option linter.unusedSimpArgs false
namespace PX
open Go
namespace Md
theorem ann {x : aK} (h : x.Filter.length ≤ 1000) : (adF x).length ≤ 40000000 := by
 have a := gQ x.Filter
 have b := cA x.Level
 have c := cA (aeC x.NoLocal)
 simp only [adF, List.length_append]; omega
theorem aey {x : aE} (h : Brief x.Message) : (nR x).length ≤ 40000000 := by
 have a := agp h
 have b := cA x.ID
 have c := cA x.State
 simp only [nR, List.length_append]; omega
theorem arO (b : List Int) {x : aK} (h : x.Filter.length ≤ 1000) (g : x.good) (hb : b.length ≤ 800000000000) : tI b x = some (b ++ adF x) := by
 have a := gQ x.Filter
 have e := cA x.Level
 unfold tI
 rw [sS _ (by omega) (by omega), bB, eZ _ g.2 (by simp only [List.length_append]; omega), bB, apD, bB, eZ _ (aiB _) (by simp only [List.length_append]; omega), bB]
 simp [adF]
theorem anC (b : List Int) {x : aE} (h : Brief x.Message) (g : x.good) (hb : b.length ≤ 800000000000) : pM b x = some (b ++ nR x) := by
 have a := cA x.ID
 have e := cA x.State
 unfold pM
 rw [eZ _ g.1 (by omega), bB, eZ _ g.2.1 (by simp only [List.length_append]; omega), bB, aht _ h (by simp only [List.length_append]; omega), bB]
 simp [nR]
def j3 {α : Type} (f : α → List Int) (l : List α) : List Int := fX (l.length : Int) ++ l.flatMap f
theorem aqO (b : List Int) {l : List aK} (hl : l.length ≤ 1000) (h : ∀ x ∈ l, x.Filter.length ≤ 1000 ∧ x.good) (hb : b.length ≤ 500000000000) : iG b l = some (b ++ j3 adF l) := by
 have e := cA (l.length : Int)
 unfold iG
 rw [eZ _ (vH (by omega)) (by omega), bB, aaD (F := fun fu i w => eU fu l (l.length : Int) i w) (f := adF) (fun x => x.Filter.length ≤ 1000 ∧ x.good) h hl (fun x h => ann h.1) (fun fu w => by rw [eU, aY (by simp)])
  (fun fu i w hi hp hw => by rw [eU, aO (eM hi), aO (inr hi), bZ hi, arO w hp.1 hp.2 hw, bB, bW (by omega)]) _ (by simp only [List.length_append]; omega)]
 simp [j3]
theorem ap1 (b : List Int) {l : List aC} (hl : l.length ≤ 1000) (h : ∀ x ∈ l, Brief x) (hb : b.length ≤ 500000000000) : fT b l = some (b ++ j3 yB l) := by
 have e := cA (l.length : Int)
 unfold fT
 rw [eZ _ (vH (by omega)) (by omega), bB, aaD (F := fun fu i w => dZ fu l (l.length : Int) i w) (f := yB) Brief h hl (fun x h => by have := agp h; omega) (fun fu w => by rw [dZ, aY (by simp)])
  (fun fu i w hi hp hw => by rw [dZ, aO (eM hi), aO (inr hi), bZ hi, aht w hp (by omega), bB, bW (by omega)]) _ (by simp only [List.length_append]; omega)]
 simp [j3]
theorem amT (b : List Int) {l : List aE} (hl : l.length ≤ 1000) (h : ∀ x ∈ l, Brief x.Message ∧ x.good) (hb : b.length ≤ 500000000000) : gJ b l = some (b ++ j3 nR l) := by
 have e := cA (l.length : Int)
 unfold gJ
 rw [eZ _ (vH (by omega)) (by omega), bB, aaD (F := fun fu i w => eF fu l (l.length : Int) i w) (f := nR) (fun x => Brief x.Message ∧ x.good) h hl (fun x h => aey h.1) (fun fu w => by rw [eF, aY (by simp)])
  (fun fu i w hi hp hw => by rw [eF, aO (eM hi), aO (inr hi), bZ hi, anC w hp.1 hp.2 hw, bB, bW (by omega)]) _ (by simp only [List.length_append]; omega)]
 simp [j3]
theorem ak9 (b : List Int) {l : List Int} (hl : l.length ≤ 1000) (h : ∀ x ∈ l, okI .i64 x) (hb : b.length ≤ 500000000000) : gV b l = some (b ++ j3 fX l) := by
 have e := cA (l.length : Int)
 unfold gV
 rw [eZ _ (vH (by omega)) (by omega), bB, aaD (F := fun fu i w => gR fu l (l.length : Int) i w) (f := fX) (okI .i64) h hl (fun x h => by have := cA x; omega) (fun fu w => by rw [gR, aY (by simp)])
  (fun fu i w hi hp hw => by rw [gR, aO (eM hi), aO (inr hi), bZ hi, eZ w hp (by omega), bB, bW (by omega)]) _ (by simp only [List.length_append]; omega)]
 simp [j3]
theorem aiV (b : List Int) {l : List Int} (hl : l.length ≤ 1000) (h : ∀ x ∈ l, okI .i64 x) (hb : b.length ≤ 500000000000) : nV b l = some (b ++ j3 fX l) := by
 have e := cA (l.length : Int)
 unfold nV
 rw [dA _ (vH (by omega)) (by omega), bB, aaD (F := fun fu i w => jP fu l (l.length : Int) i w) (f := fX) (okI .i64) h hl (fun x h => by have := cA x; omega) (fun fu w => by rw [jP, aY (by simp)])
  (fun fu i w hi hp hw => by rw [jP, aO (eM hi), aO (inr hi), bZ hi, dA w hp (by omega), bB, bW (by omega)]) _ (by simp only [List.length_append]; omega)]
 simp [j3]
theorem w8 {α : Type} (f : α → List Int) {l : List α} (hl : l.length ≤ 1000) (h : ∀ x ∈ l, (f x).length ≤ 40000000) : (j3 f l).length ≤ 50000000000 := by
 have a := cA (l.length : Int)
 have b := anH f 40000000 h
 have c : l.length * 40000000 ≤ 1000 * 40000000 := Nat.mul_le_mul_right _ hl
 simp only [j3, List.length_append]; omega
def ail (w : bO) : List Int := if w.Set then fX w.Delay ++ yB w.Message else []
def aiz (s : aI) : List Int :=
 qO s.Client ++ (qO s.User ++ (fX s.Expiry ++ (fX s.Until ++ (fX s.Dropped ++ (j3 adF s.Subs ++ (j3 yB s.Queue ++ (fX s.Out.Limit ++ (j3 nR s.Out.Items ++ (j3 fX s.Out.Pool.Used ++ (fX s.Out.Pool.Last ++ (j3 fX s.In.IDs ++ (fX (aeC s.Will.Set) ++ ail s.Will))))))))))))
theorem as9 {s : aI} (h : afh s) : ∀ (K : List Int → Option (List Int × Int)), (∀ w, K w = some (w, 0)) →
  (Option.bind (gZ ([] : List Int) s.Client) fun r1 =>
 Option.bind (gZ r1 s.User) fun r2 =>
 Option.bind (cM r2 s.Expiry) fun r3 =>
 Option.bind (cM r3 s.Until) fun r4 =>
 Option.bind (cM r4 s.Dropped) fun r5 =>
 Option.bind (iG r5 s.Subs) fun r6 =>
 Option.bind (fT r6 s.Queue) fun r7 =>
 Option.bind (cM r7 s.Out.Limit) fun r8 =>
 Option.bind (gJ r8 s.Out.Items) fun r9 =>
 Option.bind (gV r9 s.Out.Pool.Used) fun r10 =>
 Option.bind (cM r10 s.Out.Pool.Last) fun r11 =>
 Option.bind (gV r11 s.In.IDs) fun r12 =>
 Option.bind (vM s.Will.Set) fun r13 =>
 Option.bind (cM r12 r13) fun r14 =>
 cond s.Will.Set (
  Option.bind (cM r14 s.Will.Delay) fun r15 =>
  Option.bind (qL r15 s.Will.Message) fun r16 => K r16) (K r14)) = some (aiz s, 0) := fun K hK => by
 obtain ⟨g1, g2, g3, g4, g5, g6, g7, g8, ⟨g9, g10, g11, g12⟩, g13, g14, g15⟩ := h.g
 have t1 := gQ s.Client
 have t2 := gQ s.User
 have n1 := cA s.Expiry
 have n2 := cA s.Until
 have n3 := cA s.Dropped
 have n4 := cA s.Out.Limit
 have n5 := cA s.Out.Pool.Last
 have n6 := cA (aeC s.Will.Set)
 have n7 := cA s.Will.Delay
 have l1 := w8 adF h.sn fun x hx => ann (h.sk x hx)
 have l2 := w8 yB h.qn fun x hx => by have := agp (h.qk x hx); omega
 have l3 := w8 nR h.iN fun x hx => aey (h.ik x hx)
 have l4 := w8 fX h.us fun x hx => by have := cA x; omega
 have l5 := w8 fX h.ids fun x hx => by have := cA x; omega
 have c1 := h.c
 have c2 := h.u
 rw [sS _ (by omega) (by simp), bB, List.nil_append, sS _ (by omega) (by omega), bB, eZ _ g4 (by simp only [List.length_append]; omega), bB, eZ _ g5 (by simp only [List.length_append]; omega), bB, eZ _ g6 (by simp only [List.length_append]; omega), bB,
  aqO _ h.sn (fun x hx => ⟨h.sk x hx, g7.2 x hx⟩) (by simp only [List.length_append]; omega), bB, ap1 _ h.qn h.qk (by simp only [List.length_append]; omega), bB, eZ _ g9 (by simp only [List.length_append]; omega), bB, amT _ h.iN (fun x hx => ⟨h.ik x hx, g10.2 x hx⟩) (by simp only [List.length_append]; omega), bB, ak9 _ h.us g11.2 (by simp only [List.length_append]; omega), bB, eZ _ g12 (by simp only [List.length_append]; omega), bB, ak9 _ h.ids g13.2 (by simp only [List.length_append]; omega), bB, apD, bB, eZ _ (aiB _) (by simp only [List.length_append]; omega), bB]
 cases hs : s.Will.Set with
 | false => rw [dP, hK]; simp [aiz, ail, hs]
 | true => rw [dE, eZ _ g14 (by rw [hs] at n6; simp only [List.length_append]; omega), bB, aht _ (h.wl hs) (by rw [hs] at n6; simp only [List.length_append]; omega), bB, hK]; simp [aiz, ail, hs]
end Md
end PX
