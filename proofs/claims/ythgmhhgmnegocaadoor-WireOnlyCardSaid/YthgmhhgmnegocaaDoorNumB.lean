import Derived.Test.YthgmhhgmnegocaaDoorNumA
set_option linter.unusedVariables false
set_option linter.unusedSimpArgs false
namespace PX
open Go
namespace Md
theorem ac8 (s : Str) : (ofStr s).length = s.length := by simp [ofStr]
def fL (s : Str) : List Int := cB (s.length : Int) ++ ofStr s
theorem dE (s : Str) : (fL s).length ≤ 10 + s.length := by
 have := bL (s.length : Int)
 simp only [fL, List.length_append, ac8]
 omega
theorem al6 {n : Nat} (h : n ≤ 1000000000000) : okI .i64 (n : Int) := qC (by omega) (by omega)
theorem mT (b : List Int) {s : Str} (hs : s.length ≤ 1000000) (hb : b.length ≤ 10000000000000) : fR b s = some (b ++ fL s) := by
 have hn := bL (s.length : Int)
 obtain ⟨h0, h1⟩ := akE (al6 (n := s.length) (by omega))
 obtain ⟨z0, z1⟩ := xF h0 h1
 unfold fR nA
 rw [show IntKind.wrap .i64 (10 + (s.length : Int)) = 10 + s.length by rw [IntKind.wrap_i64]; omega, abE b (by omega) (by omega) (by omega), aX, ahc h0 h1, aX, ai7 9 (zzI (s.length : Int)) b fuel z0 (by omega) z1 (by rw [lP]; omega) (by omega), aX]
 have : (b ++ hU (9 + 1) (zzI (s.length : Int))).length ≤ b.length + 10 := by
  have := aeD (9 + 1) (zzI (s.length : Int))
  simp only [List.length_append]; omega
 rw [aK (by simp [ac8] at this ⊢; omega)]
 simp [fL, cB]
structure ahN (m : aC) : Prop where
 t : m.Topic.length ≤ 100000
 p : m.Payload.length ≤ 100000
 f : m.From.length ≤ 100000
 n : m.Props.length ≤ 100
 k : ∀ x ∈ m.Props, x.Key.length ≤ 100000 ∧ x.Value.length ≤ 100000
 g : m.good
def mC (l : List aB) : List Int := l.flatMap fun x => fL x.Key ++ fL x.Value
def nK (m : aC) : List Int := fL m.Topic ++ (fL m.Payload ++ (cB m.Level ++ (cB (if m.Retain then 1 else 0) ++ (cB m.Priority ++ (cB m.Expires ++ (fL m.From ++ (cB m.Seq ++ (cB (m.Props.length : Int) ++ mC m.Props))))))))
theorem ah5 (b : Bool) : j7 [b] = some (if b then 1 else 0) := by cases b <;> kernel_rfl
theorem alV (l : List aB) (hl : l.length ≤ 100) (hk : ∀ x ∈ l, x.Key.length ≤ 100000 ∧ x.Value.length ≤ 100000) (b : List Int) (hb : b.length ≤ 1000000000000) : iH fuel l (l.length : Int) 0 b = some (b ++ mC l) := by
 exact qH (l := l) (F := fun fu i (w : List Int) => iH fu l (l.length : Int) i w) (g := fun r w => some (w ++ mC r)) (fun i w => w.length ≤ 1000000000000 + i * 300000)
  (fun fu w _ => by rw [iH, aO (by simp)]; simp [mC])
  (fun fu i w hi hw ih => by
   obtain ⟨h1, h2⟩ := hk _ (List.getElem_mem hi)
   have a := dE l[i].Key
   have c := dE l[i].Value
   rw [iH, aK (mG hi), aK (inr hi), cS hi, mT _ (by omega) (by omega), aX, mT _ (by omega) (by simp only [List.length_append]; omega), aX, cQ (by omega), ih _ (by simp only [List.length_append]; omega)]
   have e : ∀ r, mC (l[i] :: r) = (fL l[i].Key ++ fL l[i].Value) ++ mC r := fun _ => rfl
   rw [e]; simp) (by omega) b (by omega)
theorem alj (b : Bool) : okI .i64 (if b then 1 else 0 : Int) := by cases b <;> exact qC (by decide) (by decide)
theorem alw (b : List Int) {m : aC} (h : ahN m) (hb : b.length ≤ 900000000000) : mX b m = some (b ++ nK m) := by
 have a := dE m.Topic
 have bb := dE m.Payload
 have c := dE m.From
 have e1 := bL m.Level
 have e2 := bL (if m.Retain then 1 else 0)
 have e3 := bL m.Priority
 have e4 := bL m.Expires
 have e5 := bL m.Seq
 have e6 := bL (m.Props.length : Int)
 have h1 := h.t
 have h2 := h.p
 have h3 := h.f
 have h4 := h.n
 obtain ⟨_, _, g3, g4, g5, _, g7, _⟩ := h.g
 unfold mX
 rw [mT _ (by omega) (by omega), aX, mT _ (by omega) (by simp only [List.length_append]; omega), aX, nV _ g3 (by simp only [List.length_append]; omega), aX, ah5, aX, nV _ (alj _) (by simp only [List.length_append]; omega), aX, nV _ g4 (by simp only [List.length_append]; omega), aX, nV _ g5 (by simp only [List.length_append]; omega), aX, mT _ (by omega) (by simp only [List.length_append]; omega), aX, nV _ g7 (by simp only [List.length_append]; omega), aX, nV _ (al6 (by omega)) (by simp only [List.length_append]; omega), aX, alV _ h4 h.k _ (by simp only [List.length_append]; omega)]
 simp [nK]
end Md
end PX
