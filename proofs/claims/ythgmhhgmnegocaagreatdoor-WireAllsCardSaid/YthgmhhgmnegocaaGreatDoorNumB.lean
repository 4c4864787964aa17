import Derived.Test.YthgmhhgmnegocaaGreatDoorNumA
set_option linter.unusedVariables false
set_option linter.unusedSimpArgs false
namespace PX
open Go
namespace Md
theorem aeX (s : Str) : (ofStr s).length = s.length := by simp [ofStr]
def fL (s : Str) : List Int := cV (s.length : Int) ++ ofStr s
theorem dH (s : Str) : (fL s).length ≤ 10 + s.length := by
 have := bN (s.length : Int)
 simp only [fL, List.length_append, aeX]
 omega
theorem alc {n : Nat} (h : n ≤ 1000000000000) : okI .i64 (n : Int) := sZ (by omega) (by omega)
theorem sL (b : List Int) {s : Str} (hs : s.length ≤ 1000000) (hb : b.length ≤ 10000000000000) : jH b s = some (b ++ fL s) := by
 have hn := bN (s.length : Int)
 obtain ⟨h0, h1⟩ := aoh (alc (n := s.length) (by omega))
 obtain ⟨z0, z1⟩ := abU h0 h1
 unfold jH tE
 rw [show IntKind.wrap .i64 (10 + (s.length : Int)) = 10 + s.length by rw [IntKind.wrap_i64]; omega, ahk b (by omega) (by omega) (by omega), aU, am7 h0 h1, aU, aoR 9 (zzI (s.length : Int)) b fuel z0 (by omega) z1 (by rw [iX]; omega) (by omega), aU]
 have : (b ++ kN (9 + 1) (zzI (s.length : Int))).length ≤ b.length + 10 := by
  have := aku (9 + 1) (zzI (s.length : Int))
  simp only [List.length_append]; omega
 rw [aL (by simp [aeX] at this ⊢; omega)]
 simp [fL, cV]
theorem jP (b : List Int) {s : Str} (hs : s.length ≤ 1000000) (hb : b.length ≤ 10000000000000) : dS b s = some (b ++ fL s) := by
 have hn := bN (s.length : Int)
 unfold dS
 rw [lO b (alc (n := s.length) (by omega)) (by omega), aU, aL (by simp [aeX]; omega)]
 simp [fL]
structure alx (m : aF) : Prop where
 t : m.Topic.length ≤ 100000
 p : m.Payload.length ≤ 100000
 f : m.From.length ≤ 100000
 n : m.Props.length ≤ 100
 k : ∀ x ∈ m.Props, x.Key.length ≤ 100000 ∧ x.Value.length ≤ 100000
 g : m.good
def lJ (l : List aC) : List Int := l.flatMap fun x => fL x.Key ++ fL x.Value
def rD (m : aF) : List Int := fL m.Topic ++ (fL m.Payload ++ (cV m.Level ++ (cV (if m.Retain then 1 else 0) ++ (cV m.Priority ++ (cV m.Expires ++ (fL m.From ++ (cV m.Seq ++ (cV (m.Props.length : Int) ++ lJ m.Props))))))))
theorem an8 (b : Bool) : oO [b] = some (if b then 1 else 0) := by cases b <;> kernel_rfl
theorem asU (l : List aC) (hl : l.length ≤ 100) (hk : ∀ x ∈ l, x.Key.length ≤ 100000 ∧ x.Value.length ≤ 100000) (b : List Int) (hb : b.length ≤ 1000000000000) : mD fuel l (l.length : Int) 0 b = some (b ++ lJ l) := by
 exact uV (l := l) (F := fun fu i (w : List Int) => mD fu l (l.length : Int) i w) (g := fun r w => some (w ++ lJ r)) (fun i w => w.length ≤ 1000000000000 + i * 300000)
  (fun fu w _ => by rw [mD, aQ (by simp)]; simp [lJ])
  (fun fu i w hi hw ih => by
   obtain ⟨h1, h2⟩ := hk _ (List.getElem_mem hi)
   have a := dH l[i].Key
   have c := dH l[i].Value
   rw [mD, aL (jC hi), aL (inr hi), cN hi, sL _ (by omega) (by omega), aU, sL _ (by omega) (by simp only [List.length_append]; omega), aU, cD (by omega), ih _ (by simp only [List.length_append]; omega)]
   have e : ∀ r, lJ (l[i] :: r) = (fL l[i].Key ++ fL l[i].Value) ++ lJ r := fun _ => rfl
   rw [e]; simp) (by omega) b (by omega)
theorem anx (m : aF) (hl : m.Props.length ≤ 100) (hk : ∀ x ∈ m.Props, x.Key.length ≤ 100000 ∧ x.Value.length ≤ 100000) (b : List Int) (hb : b.length ≤ 1000000000000) : iM fuel 0 m b = some (b ++ lJ m.Props) := by
 exact uV (l := m.Props) (F := fun fu i (w : List Int) => iM fu i m w) (g := fun r w => some (w ++ lJ r)) (fun i w => w.length ≤ 1000000000000 + i * 300000)
  (fun fu w _ => by rw [iM, aQ (by simp)]; simp [lJ])
  (fun fu i w hi hw ih => by
   obtain ⟨h1, h2⟩ := hk _ (List.getElem_mem hi)
   have a := dH m.Props[i].Key
   have c := dH m.Props[i].Value
   rw [iM, aL (jC hi)]
   simp only [aL (inr hi), cN hi]
   rw [jP _ (by omega) (by omega), aU, jP _ (by omega) (by simp only [List.length_append]; omega), aU, cD (by omega), ih _ (by simp only [List.length_append]; omega)]
   have e : ∀ r, lJ (m.Props[i] :: r) = (fL m.Props[i].Key ++ fL m.Props[i].Value) ++ lJ r := fun _ => rfl
   rw [e]; simp) (by omega) b (by omega)
theorem atr (b : Bool) : okI .i64 (if b then 1 else 0 : Int) := by cases b <;> exact sZ (by decide) (by decide)
theorem asm (b : List Int) {m : aF} (h : alx m) (hb : b.length ≤ 900000000000) : tF b m = some (b ++ rD m) := by
 have a := dH m.Topic
 have bb := dH m.Payload
 have c := dH m.From
 have e1 := bN m.Level
 have e2 := bN (if m.Retain then 1 else 0)
 have e3 := bN m.Priority
 have e4 := bN m.Expires
 have e5 := bN m.Seq
 have e6 := bN (m.Props.length : Int)
 have h1 := h.t
 have h2 := h.p
 have h3 := h.f
 have h4 := h.n
 obtain ⟨_, _, g3, g4, g5, _, g7, _⟩ := h.g
 unfold tF
 rw [sL _ (by omega) (by omega), aU, sL _ (by omega) (by simp only [List.length_append]; omega), aU, uP _ g3 (by simp only [List.length_append]; omega), aU, an8, aU, uP _ (atr _) (by simp only [List.length_append]; omega), aU, uP _ g4 (by simp only [List.length_append]; omega), aU, uP _ g5 (by simp only [List.length_append]; omega), aU, sL _ (by omega) (by simp only [List.length_append]; omega), aU, uP _ g7 (by simp only [List.length_append]; omega), aU, uP _ (alc (by omega)) (by simp only [List.length_append]; omega), aU, asU _ h4 h.k _ (by simp only [List.length_append]; omega)]
 simp [rD]
theorem anB (b : List Int) {m : aF} (h : alx m) (hb : b.length ≤ 900000000000) : nF b m = some (b ++ rD m) := by
 have a := dH m.Topic
 have bb := dH m.Payload
 have c := dH m.From
 have e1 := bN m.Level
 have e3 := bN m.Priority
 have e4 := bN m.Expires
 have e5 := bN m.Seq
 have e6 := bN (m.Props.length : Int)
 have h1 := h.t
 have h2 := h.p
 have h3 := h.f
 have h4 := h.n
 obtain ⟨_, _, g3, g4, g5, _, g7, _⟩ := h.g
 have key : ∀ x : Int, okI .i64 x → mG b x m = some (b ++ (fL m.Topic ++ (fL m.Payload ++ (cV m.Level ++ (cV x ++ (cV m.Priority ++ (cV m.Expires ++ (fL m.From ++ (cV m.Seq ++ (cV (m.Props.length : Int) ++ lJ m.Props)))))))))) := fun x gx => by
  have e2 := bN x
  unfold mG
  rw [jP _ (by omega) (by omega), aU, jP _ (by omega) (by simp only [List.length_append]; omega), aU, lO _ g3 (by simp only [List.length_append]; omega), aU, lO _ gx (by simp only [List.length_append]; omega), aU, lO _ g4 (by simp only [List.length_append]; omega), aU, lO _ g5 (by simp only [List.length_append]; omega), aU, jP _ (by omega) (by simp only [List.length_append]; omega), aU, lO _ g7 (by simp only [List.length_append]; omega), aU, lO _ (alc (by omega)) (by simp only [List.length_append]; omega), aU, anx _ h4 h.k _ (by simp only [List.length_append]; omega)]
  simp
 unfold nF rD
 cases m.Retain with
 | true => exact key 1 (sZ (by decide) (by decide))
 | false => exact key 0 (sZ (by decide) (by decide))
end Md
end PX
