import Derived.Test.YtahbfpamckocmaaGreatDoorNumA
set_option linter.unusedVariables false
set_option linter.unusedSimpArgs false
namespace PX
open Go
namespace Md
theorem ajf (s : Str) : (ofStr s).length = s.length := by simp [ofStr]
def lN (s : Str) : List Int := dO (s.length : Int) ++ ofStr s
theorem fQ (s : Str) : (lN s).length ≤ 10 + s.length := by
 have := bQ (s.length : Int)
 simp only [lN, List.length_append, ajf]
 omega
theorem acb {n : Nat} (h : n ≤ 1000000000000) : okI .i64 (n : Int) := rA (by omega) (by omega)
theorem pD (b : List Int) {s : Str} (hs : s.length ≤ 1000000) (hb : b.length ≤ 10000000000000) : fY b s = some (b ++ lN s) := by
 have hn := bQ (s.length : Int)
 obtain ⟨h0, h1⟩ := anf (acb (n := s.length) (by omega))
 obtain ⟨z0, z1⟩ := aaz h0 h1
 unfold fY xT
 rw [show IntKind.wrap .i64 (10 + (s.length : Int)) = 10 + s.length by rw [IntKind.wrap_i64]; omega, akF b (by omega) (by omega) (by omega), aU, ajg h0 h1, aU, akK 9 (zzI (s.length : Int)) b fuel z0 (by omega) z1 (by rw [fU]; omega) (by omega), aU]
 have : (b ++ kG (9 + 1) (zzI (s.length : Int))).length ≤ b.length + 10 := by
  have := agL (9 + 1) (zzI (s.length : Int))
  simp only [List.length_append]; omega
 rw [aM (by simp [ajf] at this ⊢; omega)]
 simp [lN, dO]
structure Brief (m : aA) : Prop where
 t : m.Topic.length ≤ 100000
 p : m.Payload.length ≤ 100000
 f : m.From.length ≤ 100000
 n : m.Props.length ≤ 100
 k : ∀ x ∈ m.Props, x.Key.length ≤ 100000 ∧ x.Value.length ≤ 100000
 g : m.good
def p7 (l : List aD) : List Int := l.flatMap fun x => lN x.Key ++ lN x.Value
def pR (m : aA) : List Int := lN m.Topic ++ (lN m.Payload ++ (dO m.Level ++ (dO (if m.Retain then 1 else 0) ++ (dO m.Priority ++ (dO m.Expires ++ (lN m.From ++ (dO m.Seq ++ (dO (m.Props.length : Int) ++ p7 m.Props))))))))
theorem ahb : ∀ {l : List aD}, (∀ x ∈ l, x.Key.length ≤ 100000 ∧ x.Value.length ≤ 100000) → (p7 l).length ≤ l.length * 200020
 | [], _ => by simp [p7]
 | x :: r, h => by
  have h1 := h x (by simp)
  have ih := ahb (l := r) fun y hy => h y (by simp [hy])
  have a := fQ x.Key
  have b := fQ x.Value
  have e : p7 (x :: r) = (lN x.Key ++ lN x.Value) ++ p7 r := rfl
  rw [e, List.length_append, List.length_append, List.length_cons]
  omega
theorem apN (b : Bool) : aaf [b] = some (if b then 1 else 0) := by cases b <;> kernel_rfl
theorem aoi (l : List aD) (hl : l.length ≤ 100) (hk : ∀ x ∈ l, x.Key.length ≤ 100000 ∧ x.Value.length ≤ 100000) (b : List Int) (hb : b.length ≤ 1000000000000) : kC fuel l (l.length : Int) 0 b = some (b ++ p7 l) := by
 exact tO (l := l) (F := fun fu i (w : List Int) => kC fu l (l.length : Int) i w) (g := fun r w => some (w ++ p7 r)) (fun i w => w.length ≤ 1000000000000 + i * 300000)
  (fun fu w _ => by rw [kC, aN (by simp)]; simp [p7])
  (fun fu i w hi hw ih => by
   obtain ⟨h1, h2⟩ := hk _ (List.getElem_mem hi)
   have a := fQ l[i].Key
   have c := fQ l[i].Value
   rw [kC, aM (lL hi), aM (inr hi), dV hi, pD _ (by omega) (by omega), aU, pD _ (by omega) (by simp only [List.length_append]; omega), aU, cG (by omega), ih _ (by simp only [List.length_append]; omega)]
   have e : ∀ r, p7 (l[i] :: r) = (lN l[i].Key ++ lN l[i].Value) ++ p7 r := fun _ => rfl
   rw [e]; simp) (by omega) b (by omega)
theorem agb {m : aA} (h : Brief m) : (pR m).length ≤ 30000000 := by
 have a := fQ m.Topic
 have b := fQ m.Payload
 have c := fQ m.From
 have d := ahb h.k
 have e1 := bQ m.Level
 have e2 := bQ (if m.Retain then 1 else 0)
 have e3 := bQ m.Priority
 have e4 := bQ m.Expires
 have e5 := bQ m.Seq
 have e6 := bQ (m.Props.length : Int)
 have := h.t
 have := h.p
 have := h.f
 have := h.n
 simp only [pR, List.length_append]
 omega
theorem anF (b : Bool) : okI .i64 (if b then 1 else 0 : Int) := by cases b <;> exact rA (by decide) (by decide)
theorem ad9 (b : List Int) {m : aA} (h : Brief m) (hb : b.length ≤ 900000000000) : nW b m = some (b ++ pR m) := by
 have a := fQ m.Topic
 have bb := fQ m.Payload
 have c := fQ m.From
 have e1 := bQ m.Level
 have e2 := bQ (if m.Retain then 1 else 0)
 have e3 := bQ m.Priority
 have e4 := bQ m.Expires
 have e5 := bQ m.Seq
 have e6 := bQ (m.Props.length : Int)
 have h1 := h.t
 have h2 := h.p
 have h3 := h.f
 have h4 := h.n
 obtain ⟨_, _, g3, g4, g5, _, g7, _⟩ := h.g
 unfold nW
 rw [pD _ (by omega) (by omega), aU, pD _ (by omega) (by simp only [List.length_append]; omega), aU, eQ _ g3 (by simp only [List.length_append]; omega), aU, apN, aU, eQ _ (anF _) (by simp only [List.length_append]; omega), aU, eQ _ g4 (by simp only [List.length_append]; omega), aU, eQ _ g5 (by simp only [List.length_append]; omega), aU, pD _ (by omega) (by simp only [List.length_append]; omega), aU, eQ _ g7 (by simp only [List.length_append]; omega), aU, eQ _ (acb (by omega)) (by simp only [List.length_append]; omega), aU, aoi _ h4 h.k _ (by simp only [List.length_append]; omega)]
 simp [pR]
end Md
end PX
