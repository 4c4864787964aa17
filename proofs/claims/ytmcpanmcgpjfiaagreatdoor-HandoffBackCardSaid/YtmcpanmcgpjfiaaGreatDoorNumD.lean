import Derived.Test.YtmcpanmcgpjfiaaGreatDoorNumC
set_option linter.unusedVariables false
set_option linter.unusedSimpArgs false
namespace PX
open Go
namespace Md
theorem apo {x : aK} (h : x.Filter.length ≤ 1000) : (zB x).length ≤ 40000000 := by
 have a := eN x.Filter
 have b := bR x.Level
 have c := bR (yM x.NoLocal)
 simp only [zB, List.length_append]; omega
theorem af5 {x : aE} (h : Brief x.Message) : (j4 x).length ≤ 40000000 := by
 have a := agZ h
 have b := bR x.ID
 have c := bR x.State
 simp only [j4, List.length_append]; omega
theorem auR (b : List Int) {x : aK} (h : x.Filter.length ≤ 1000) (g : x.good) (hb : b.length ≤ 800000000000) : vN b x = some (b ++ zB x) := by
 have a := eN x.Filter
 have e := bR x.Level
 unfold vN
 rw [uI _ (by omega) (by omega), aY, fR _ g.2 (by simp only [List.length_append]; omega), aY, ary, aY, fR _ (ajU _) (by simp only [List.length_append]; omega), aY]
 simp [zB]
theorem ape (b : List Int) {x : aE} (h : Brief x.Message) (g : x.good) (hb : b.length ≤ 800000000000) : rF b x = some (b ++ j4 x) := by
 have a := bR x.ID
 have e := bR x.State
 unfold rF
 rw [fR _ g.1 (by omega), aY, fR _ g.2.1 (by simp only [List.length_append]; omega), aY, ajt _ h (by simp only [List.length_append]; omega), aY]
 simp [j4]
def jQ {α : Type} (f : α → List Int) (l : List α) : List Int := cO (l.length : Int) ++ l.flatMap f
theorem asv (b : List Int) {l : List aK} (hl : l.length ≤ 1000) (h : ∀ x ∈ l, x.Filter.length ≤ 1000 ∧ x.good) (hb : b.length ≤ 500000000000) : jG b l = some (b ++ jQ zB l) := by
 have e := bR (l.length : Int)
 unfold jG
 rw [fR _ (vJ (by omega)) (by omega), aY, abl (F := fun fu i w => fL fu l (l.length : Int) i w) (f := zB) (fun x => x.Filter.length ≤ 1000 ∧ x.good) h hl (fun x h => apo h.1) (fun fu w => by rw [fL, aS (by simp)])
  (fun fu i w hi hp hw => by rw [fL, aL (hI hi), aL (inr hi), cI hi, auR w hp.1 hp.2 hw, aY, cF (by omega)]) _ (by simp only [List.length_append]; omega)]
 simp [jQ]
theorem asL (b : List Int) {l : List aC} (hl : l.length ≤ 1000) (h : ∀ x ∈ l, Brief x) (hb : b.length ≤ 500000000000) : gF b l = some (b ++ jQ pL l) := by
 have e := bR (l.length : Int)
 unfold gF
 rw [fR _ (vJ (by omega)) (by omega), aY, abl (F := fun fu i w => eL fu l (l.length : Int) i w) (f := pL) Brief h hl (fun x h => by have := agZ h; omega) (fun fu w => by rw [eL, aS (by simp)])
  (fun fu i w hi hp hw => by rw [eL, aL (hI hi), aL (inr hi), cI hi, ajt w hp (by omega), aY, cF (by omega)]) _ (by simp only [List.length_append]; omega)]
 simp [jQ]
theorem aok (b : List Int) {l : List aE} (hl : l.length ≤ 1000) (h : ∀ x ∈ l, Brief x.Message ∧ x.good) (hb : b.length ≤ 500000000000) : hH b l = some (b ++ jQ j4 l) := by
 have e := bR (l.length : Int)
 unfold hH
 rw [fR _ (vJ (by omega)) (by omega), aY, abl (F := fun fu i w => eU fu l (l.length : Int) i w) (f := j4) (fun x => Brief x.Message ∧ x.good) h hl (fun x h => af5 h.1) (fun fu w => by rw [eU, aS (by simp)])
  (fun fu i w hi hp hw => by rw [eU, aL (hI hi), aL (inr hi), cI hi, ape w hp.1 hp.2 hw, aY, cF (by omega)]) _ (by simp only [List.length_append]; omega)]
 simp [jQ]
theorem alJ (b : List Int) {l : List Int} (hl : l.length ≤ 1000) (h : ∀ x ∈ l, okI .i64 x) (hb : b.length ≤ 500000000000) : iG b l = some (b ++ jQ cO l) := by
 have e := bR (l.length : Int)
 unfold iG
 rw [fR _ (vJ (by omega)) (by omega), aY, abl (F := fun fu i w => hR fu l (l.length : Int) i w) (f := cO) (okI .i64) h hl (fun x h => by have := bR x; omega) (fun fu w => by rw [hR, aS (by simp)])
  (fun fu i w hi hp hw => by rw [hR, aL (hI hi), aL (inr hi), cI hi, fR w hp (by omega), aY, cF (by omega)]) _ (by simp only [List.length_append]; omega)]
 simp [jQ]
theorem xX {α : Type} (f : α → List Int) {l : List α} (hl : l.length ≤ 1000) (h : ∀ x ∈ l, (f x).length ≤ 40000000) : (jQ f l).length ≤ 50000000000 := by
 have a := bR (l.length : Int)
 have b := ale f 40000000 h
 have c : l.length * 40000000 ≤ 1000 * 40000000 := Nat.mul_le_mul_right _ hl
 simp only [jQ, List.length_append]; omega
def zN (w : bM) : List Int := if w.Set then cO w.Delay ++ pL w.Message else []
def iV (s : aI) : List Int :=
 gQ s.Client ++ (gQ s.User ++ (cO s.Expiry ++ (cO s.Until ++ (cO s.Dropped ++ (jQ zB s.Subs ++ (jQ pL s.Queue ++ (cO s.Out.Limit ++ (jQ j4 s.Out.Items ++ (jQ cO s.Out.Pool.Used ++ (cO s.Out.Pool.Last ++ (jQ cO s.In.IDs ++ (cO (yM s.Will.Set) ++ zN s.Will))))))))))))
theorem auX {s : aI} (h : agy s) : ∀ (K : List Int → Option (List Int × Int)), (∀ w, K w = some (w, 0)) →
  (Option.bind (iF ([] : List Int) s.Client) fun r1 =>
 Option.bind (iF r1 s.User) fun r2 =>
 Option.bind (cV r2 s.Expiry) fun r3 =>
 Option.bind (cV r3 s.Until) fun r4 =>
 Option.bind (cV r4 s.Dropped) fun r5 =>
 Option.bind (jG r5 s.Subs) fun r6 =>
 Option.bind (gF r6 s.Queue) fun r7 =>
 Option.bind (cV r7 s.Out.Limit) fun r8 =>
 Option.bind (hH r8 s.Out.Items) fun r9 =>
 Option.bind (iG r9 s.Out.Pool.Used) fun r10 =>
 Option.bind (cV r10 s.Out.Pool.Last) fun r11 =>
 Option.bind (iG r11 s.In.IDs) fun r12 =>
 Option.bind (xG s.Will.Set) fun r13 =>
 Option.bind (cV r12 r13) fun r14 =>
 cond s.Will.Set (
  Option.bind (cV r14 s.Will.Delay) fun r15 =>
  Option.bind (sH r15 s.Will.Message) fun r16 => K r16) (K r14)) = some (iV s, 0) := fun K hK => by
 obtain ⟨g1, g2, g3, g4, g5, g6, g7, g8, ⟨g9, g10, g11, g12⟩, g13, g14, g15⟩ := h.g
 have t1 := eN s.Client
 have t2 := eN s.User
 have n1 := bR s.Expiry
 have n2 := bR s.Until
 have n3 := bR s.Dropped
 have n4 := bR s.Out.Limit
 have n5 := bR s.Out.Pool.Last
 have n6 := bR (yM s.Will.Set)
 have n7 := bR s.Will.Delay
 have l1 := xX zB h.sn fun x hx => apo (h.sk x hx)
 have l2 := xX pL h.qn fun x hx => by have := agZ (h.qk x hx); omega
 have l3 := xX j4 h.iN fun x hx => af5 (h.ik x hx)
 have l4 := xX cO h.us fun x hx => by have := bR x; omega
 have l5 := xX cO h.ids fun x hx => by have := bR x; omega
 have c1 := h.c
 have c2 := h.u
 rw [uI _ (by omega) (by simp), aY, List.nil_append, uI _ (by omega) (by omega), aY, fR _ g4 (by simp only [List.length_append]; omega), aY, fR _ g5 (by simp only [List.length_append]; omega), aY, fR _ g6 (by simp only [List.length_append]; omega), aY,
  asv _ h.sn (fun x hx => ⟨h.sk x hx, g7.2 x hx⟩) (by simp only [List.length_append]; omega), aY, asL _ h.qn h.qk (by simp only [List.length_append]; omega), aY, fR _ g9 (by simp only [List.length_append]; omega), aY, aok _ h.iN (fun x hx => ⟨h.ik x hx, g10.2 x hx⟩) (by simp only [List.length_append]; omega), aY, alJ _ h.us g11.2 (by simp only [List.length_append]; omega), aY, fR _ g12 (by simp only [List.length_append]; omega), aY, alJ _ h.ids g13.2 (by simp only [List.length_append]; omega), aY, ary, aY, fR _ (ajU _) (by simp only [List.length_append]; omega), aY]
 cases hs : s.Will.Set with
 | false => rw [eW, hK]; simp [iV, zN, hs]
 | true => rw [eS, fR _ g14 (by rw [hs] at n6; simp only [List.length_append]; omega), aY, ajt _ (h.wl hs) (by rw [hs] at n6; simp only [List.length_append]; omega), aY, hK]; simp [iV, zN, hs]
end Md
end PX
