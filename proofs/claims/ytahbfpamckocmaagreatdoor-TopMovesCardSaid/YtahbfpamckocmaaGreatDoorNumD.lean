import Derived.Test.YtahbfpamckocmaaGreatDoorNumC
set_option linter.unusedVariables false
set_option linter.unusedSimpArgs false
namespace PX
open Go
namespace Md
theorem akV {x : aG} (h : x.Filter.length ≤ 1000) : (v8 x).length ≤ 40000000 := by
 have a := fQ x.Filter
 have b := bQ x.Level
 have c := bQ (w7 x.NoLocal)
 simp only [v8, List.length_append]; omega
theorem af2 {x : aB} (h : Brief x.Message) : (mR x).length ≤ 40000000 := by
 have a := agb h
 have b := bQ x.ID
 have c := bQ x.State
 simp only [mR, List.length_append]; omega
theorem aoB (b : List Int) {x : aG} (h : x.Filter.length ≤ 1000) (g : x.good) (hb : b.length ≤ 800000000000) : p8 b x = some (b ++ v8 x) := by
 have a := fQ x.Filter
 have e := bQ x.Level
 unfold p8
 rw [pD _ (by omega) (by omega), aU, eQ _ g.2 (by simp only [List.length_append]; omega), aU, ama, aU, eQ _ (al1 _) (by simp only [List.length_append]; omega), aU]
 simp [v8]
theorem akd (b : List Int) {x : aB} (h : Brief x.Message) (g : x.good) (hb : b.length ≤ 800000000000) : nN b x = some (b ++ mR x) := by
 have a := bQ x.ID
 have e := bQ x.State
 unfold nN
 rw [eQ _ g.1 (by omega), aU, eQ _ g.2.1 (by simp only [List.length_append]; omega), aU, ad9 _ h (by simp only [List.length_append]; omega), aU]
 simp [mR]
def mE {α : Type} (f : α → List Int) (l : List α) : List Int := dO (l.length : Int) ++ l.flatMap f
theorem amD (b : List Int) {l : List aG} (hl : l.length ≤ 1000) (h : ∀ x ∈ l, x.Filter.length ≤ 1000 ∧ x.good) (hb : b.length ≤ 500000000000) : gR b l = some (b ++ mE v8 l) := by
 have e := bQ (l.length : Int)
 unfold gR
 rw [eQ _ (acb (by omega)) (by omega), aU, aai (F := fun fu i w => eK fu l (l.length : Int) i w) (f := v8) (fun x => x.Filter.length ≤ 1000 ∧ x.good) h hl (fun x h => akV h.1) (fun fu w => by rw [eK, aN (by simp)])
  (fun fu i w hi hp hw => by rw [eK, aM (lL hi), aM (inr hi), dV hi, aoB w hp.1 hp.2 hw, aU, cG (by omega)]) _ (by simp only [List.length_append]; omega)]
 simp [mE]
theorem amo (b : List Int) {l : List aA} (hl : l.length ≤ 1000) (h : ∀ x ∈ l, Brief x) (hb : b.length ≤ 500000000000) : fA b l = some (b ++ mE pR l) := by
 have e := bQ (l.length : Int)
 unfold fA
 rw [eQ _ (acb (by omega)) (by omega), aU, aai (F := fun fu i w => dP fu l (l.length : Int) i w) (f := pR) Brief h hl (fun x h => by have := agb h; omega) (fun fu w => by rw [dP, aN (by simp)])
  (fun fu i w hi hp hw => by rw [dP, aM (lL hi), aM (inr hi), dV hi, ad9 w hp (by omega), aU, cG (by omega)]) _ (by simp only [List.length_append]; omega)]
 simp [mE]
theorem ajz (b : List Int) {l : List aB} (hl : l.length ≤ 1000) (h : ∀ x ∈ l, Brief x.Message ∧ x.good) (hb : b.length ≤ 500000000000) : fM b l = some (b ++ mE mR l) := by
 have e := bQ (l.length : Int)
 unfold fM
 rw [eQ _ (acb (by omega)) (by omega), aU, aai (F := fun fu i w => dU fu l (l.length : Int) i w) (f := mR) (fun x => Brief x.Message ∧ x.good) h hl (fun x h => af2 h.1) (fun fu w => by rw [dU, aN (by simp)])
  (fun fu i w hi hp hw => by rw [dU, aM (lL hi), aM (inr hi), dV hi, akd w hp.1 hp.2 hw, aU, cG (by omega)]) _ (by simp only [List.length_append]; omega)]
 simp [mE]
theorem agY (b : List Int) {l : List Int} (hl : l.length ≤ 1000) (h : ∀ x ∈ l, okI .i64 x) (hb : b.length ≤ 500000000000) : gA b l = some (b ++ mE dO l) := by
 have e := bQ (l.length : Int)
 unfold gA
 rw [eQ _ (acb (by omega)) (by omega), aU, aai (F := fun fu i w => fR fu l (l.length : Int) i w) (f := dO) (okI .i64) h hl (fun x h => by have := bQ x; omega) (fun fu w => by rw [fR, aN (by simp)])
  (fun fu i w hi hp hw => by rw [fR, aM (lL hi), aM (inr hi), dV hi, eQ w hp (by omega), aU, cG (by omega)]) _ (by simp only [List.length_append]; omega)]
 simp [mE]
theorem y8 {α : Type} (f : α → List Int) {l : List α} (hl : l.length ≤ 1000) (h : ∀ x ∈ l, (f x).length ≤ 40000000) : (mE f l).length ≤ 50000000000 := by
 have a := bQ (l.length : Int)
 have b := agy f 40000000 h
 have c : l.length * 40000000 ≤ 1000 * 40000000 := Nat.mul_le_mul_right _ hl
 simp only [mE, List.length_append]; omega
def w4 (w : aV) : List Int := if w.Set then dO w.Delay ++ pR w.Message else []
def qX (s : aC) : List Int :=
 lN s.Client ++ (lN s.User ++ (dO s.Expiry ++ (dO s.Until ++ (dO s.Dropped ++ (mE v8 s.Subs ++ (mE pR s.Queue ++ (dO s.Out.Limit ++ (mE mR s.Out.Items ++ (mE dO s.Out.Pool.Used ++ (dO s.Out.Pool.Last ++ (mE dO s.In.IDs ++ (dO (w7 s.Will.Set) ++ w4 s.Will))))))))))))
theorem apU {s : aC} (h : aod s) : ∀ (K : List Int → Option (List Int × Int)), (∀ w, K w = some (w, 0)) →
  (Option.bind (fY ([] : List Int) s.Client) fun r1 =>
 Option.bind (fY r1 s.User) fun r2 =>
 Option.bind (cC r2 s.Expiry) fun r3 =>
 Option.bind (cC r3 s.Until) fun r4 =>
 Option.bind (cC r4 s.Dropped) fun r5 =>
 Option.bind (gR r5 s.Subs) fun r6 =>
 Option.bind (fA r6 s.Queue) fun r7 =>
 Option.bind (cC r7 s.Out.Limit) fun r8 =>
 Option.bind (fM r8 s.Out.Items) fun r9 =>
 Option.bind (gA r9 s.Out.Pool.Used) fun r10 =>
 Option.bind (cC r10 s.Out.Pool.Last) fun r11 =>
 Option.bind (gA r11 s.In.IDs) fun r12 =>
 Option.bind (rX s.Will.Set) fun r13 =>
 Option.bind (cC r12 r13) fun r14 =>
 cond s.Will.Set (
  Option.bind (cC r14 s.Will.Delay) fun r15 =>
  Option.bind (nW r15 s.Will.Message) fun r16 => K r16) (K r14)) = some (qX s, 0) := fun K hK => by
 obtain ⟨g1, g2, g3, g4, g5, g6, g7, g8, ⟨g9, g10, g11, g12⟩, g13, g14, g15⟩ := h.g
 have t1 := fQ s.Client
 have t2 := fQ s.User
 have n1 := bQ s.Expiry
 have n2 := bQ s.Until
 have n3 := bQ s.Dropped
 have n4 := bQ s.Out.Limit
 have n5 := bQ s.Out.Pool.Last
 have n6 := bQ (w7 s.Will.Set)
 have n7 := bQ s.Will.Delay
 have l1 := y8 v8 h.sn fun x hx => akV (h.sk x hx)
 have l2 := y8 pR h.qn fun x hx => by have := agb (h.qk x hx); omega
 have l3 := y8 mR h.iN fun x hx => af2 (h.ik x hx)
 have l4 := y8 dO h.us fun x hx => by have := bQ x; omega
 have l5 := y8 dO h.ids fun x hx => by have := bQ x; omega
 have c1 := h.c
 have c2 := h.u
 rw [pD _ (by omega) (by simp), aU, List.nil_append, pD _ (by omega) (by omega), aU, eQ _ g4 (by simp only [List.length_append]; omega), aU, eQ _ g5 (by simp only [List.length_append]; omega), aU, eQ _ g6 (by simp only [List.length_append]; omega), aU,
  amD _ h.sn (fun x hx => ⟨h.sk x hx, g7.2 x hx⟩) (by simp only [List.length_append]; omega), aU, amo _ h.qn h.qk (by simp only [List.length_append]; omega), aU, eQ _ g9 (by simp only [List.length_append]; omega), aU, ajz _ h.iN (fun x hx => ⟨h.ik x hx, g10.2 x hx⟩) (by simp only [List.length_append]; omega), aU, agY _ h.us g11.2 (by simp only [List.length_append]; omega), aU, eQ _ g12 (by simp only [List.length_append]; omega), aU, agY _ h.ids g13.2 (by simp only [List.length_append]; omega), aU, ama, aU, eQ _ (al1 _) (by simp only [List.length_append]; omega), aU]
 cases hs : s.Will.Set with
 | false => rw [dL, hK]; simp [qX, w4, hs]
 | true => rw [cS, eQ _ g14 (by rw [hs] at n6; simp only [List.length_append]; omega), aU, ad9 _ (h.wl hs) (by rw [hs] at n6; simp only [List.length_append]; omega), aU, hK]; simp [qX, w4, hs]
end Md
end PX
