import Derived.Test.YtmcpanmcgpjfiaaGreatDoorNumA
set_option linter.unusedVariables false
set_option linter.unusedSimpArgs false
namespace PX
open Go
namespace Md
theorem ah0 (s : Str) : (ofStr s).length = s.length := by simp [ofStr]
def qO (s : Str) : List Int := fX (s.length : Int) ++ ofStr s
theorem gQ (s : Str) : (qO s).length ≤ 10 + s.length := by
 have := cA (s.length : Int)
 simp only [qO, List.length_append, ah0]
 omega
theorem vH {n : Nat} (h : n ≤ 1000000000000) : okI .i64 (n : Int) := afO (by omega) (by omega)
theorem sS (b : List Int) {s : Str} (hs : s.length ≤ 1000000) (hb : b.length ≤ 10000000000000) : gZ b s = some (b ++ qO s) := by
 have hn := cA (s.length : Int)
 obtain ⟨h0, h1⟩ := asZ (vH (n := s.length) (by omega))
 obtain ⟨z0, z1⟩ := aot h0 h1
 unfold gZ abu
 rw [show IntKind.wrap .i64 (10 + (s.length : Int)) = 10 + s.length by rw [IntKind.wrap_i64]; omega, aoq b (by omega) (by omega) (by omega), bB, amJ h0 h1, bB, (ajA 9 (zzI (s.length : Int)) b fuel z0 (by omega) z1 (by rw [kR]; omega) (by omega)).1, bB]
 have : (b ++ ago (9 + 1) (zzI (s.length : Int))).length ≤ b.length + 10 := by
  have := ajH (9 + 1) (zzI (s.length : Int))
  simp only [List.length_append]; omega
 rw [aO (by simp [ah0] at this ⊢; omega)]
 simp [qO, fX]
theorem lN (b : List Int) {s : Str} (hs : s.length ≤ 1000000) (hb : b.length ≤ 10000000000000) : eA b s = some (b ++ qO s) := by
 have hn := cA (s.length : Int)
 unfold eA
 rw [dA b (vH (n := s.length) (by omega)) (by omega), bB, aO (by simp [ah0]; omega)]
 simp [qO]
structure Brief (m : aC) : Prop where
 t : m.Topic.length ≤ 100000
 p : m.Payload.length ≤ 100000
 f : m.From.length ≤ 100000
 n : m.Props.length ≤ 100
 k : ∀ x ∈ m.Props, x.Key.length ≤ 100000 ∧ x.Value.length ≤ 100000
 g : m.good
def pQ (l : List aG) : List Int := l.flatMap fun x => qO x.Key ++ qO x.Value
def yB (m : aC) : List Int := qO m.Topic ++ (qO m.Payload ++ (fX m.Level ++ (fX (if m.Retain then 1 else 0) ++ (fX m.Priority ++ (fX m.Expires ++ (qO m.From ++ (fX m.Seq ++ (fX (m.Props.length : Int) ++ pQ m.Props))))))))
theorem akW : ∀ {l : List aG}, (∀ x ∈ l, x.Key.length ≤ 100000 ∧ x.Value.length ≤ 100000) → (pQ l).length ≤ l.length * 200020
 | [], _ => by simp [pQ]
 | x :: r, h => by
  have h1 := h x (by simp)
  have ih := akW (l := r) fun y hy => h y (by simp [hy])
  have a := gQ x.Key
  have b := gQ x.Value
  have e : pQ (x :: r) = (qO x.Key ++ qO x.Value) ++ pQ r := rfl
  rw [e, List.length_append, List.length_append, List.length_cons]
  omega
theorem atq (b : Bool) : acn [b] = some (if b then 1 else 0) := by cases b <;> kernel_rfl
theorem arS (l : List aG) (hl : l.length ≤ 100) (hk : ∀ x ∈ l, x.Key.length ≤ 100000 ∧ x.Value.length ≤ 100000) (b : List Int) (hb : b.length ≤ 1000000000000) : lR fuel l (l.length : Int) 0 b = some (b ++ pQ l) := by
 exact jY (l := l) (F := fun fu i (w : List Int) => lR fu l (l.length : Int) i w) (g := fun r w => some (w ++ pQ r)) (fun i w => w.length ≤ 1000000000000 + i * 300000)
  (fun fu w _ => by rw [lR, aY (by simp)]; simp [pQ])
  (fun fu i w hi hw ih => by
   obtain ⟨h1, h2⟩ := hk _ (List.getElem_mem hi)
   have a := gQ l[i].Key
   have c := gQ l[i].Value
   rw [lR, aO (eM hi), aO (inr hi), bZ hi, sS _ (by omega) (by omega), bB, sS _ (by omega) (by simp only [List.length_append]; omega), bB, bW (by omega), ih _ (by simp only [List.length_append]; omega)]
   have e : ∀ r, pQ (l[i] :: r) = (qO l[i].Key ++ qO l[i].Value) ++ pQ r := fun _ => rfl
   rw [e]; simp) (by omega) b (by omega)
theorem amN (m : aC) (hl : m.Props.length ≤ 100) (hk : ∀ x ∈ m.Props, x.Key.length ≤ 100000 ∧ x.Value.length ≤ 100000) (b : List Int) (hb : b.length ≤ 1000000000000) : iD fuel 0 m b = some (b ++ pQ m.Props) := by
 exact jY (l := m.Props) (F := fun fu i (w : List Int) => iD fu i m w) (g := fun r w => some (w ++ pQ r)) (fun i w => w.length ≤ 1000000000000 + i * 300000)
  (fun fu w _ => by rw [iD, aY (by simp)]; simp [pQ])
  (fun fu i w hi hw ih => by
   obtain ⟨h1, h2⟩ := hk _ (List.getElem_mem hi)
   have a := gQ m.Props[i].Key
   have c := gQ m.Props[i].Value
   rw [iD, aO (eM hi)]
   simp only [aO (inr hi), bZ hi]
   rw [lN _ (by omega) (by omega), bB, lN _ (by omega) (by simp only [List.length_append]; omega), bB, bW (by omega), ih _ (by simp only [List.length_append]; omega)]
   have e : ∀ r, pQ (m.Props[i] :: r) = (qO m.Props[i].Key ++ qO m.Props[i].Value) ++ pQ r := fun _ => rfl
   rw [e]; simp) (by omega) b (by omega)
theorem agp {m : aC} (h : Brief m) : (yB m).length ≤ 30000000 := by
 have a := gQ m.Topic
 have b := gQ m.Payload
 have c := gQ m.From
 have d := akW h.k
 have e1 := cA m.Level
 have e2 := cA (if m.Retain then 1 else 0)
 have e3 := cA m.Priority
 have e4 := cA m.Expires
 have e5 := cA m.Seq
 have e6 := cA (m.Props.length : Int)
 have := h.t
 have := h.p
 have := h.f
 have := h.n
 simp only [yB, List.length_append]
 omega
theorem arX (b : Bool) : okI .i64 (if b then 1 else 0 : Int) := by cases b <;> exact afO (by decide) (by decide)
theorem aht (b : List Int) {m : aC} (h : Brief m) (hb : b.length ≤ 900000000000) : qL b m = some (b ++ yB m) := by
 have a := gQ m.Topic
 have bb := gQ m.Payload
 have c := gQ m.From
 have e1 := cA m.Level
 have e2 := cA (if m.Retain then 1 else 0)
 have e3 := cA m.Priority
 have e4 := cA m.Expires
 have e5 := cA m.Seq
 have e6 := cA (m.Props.length : Int)
 have h1 := h.t
 have h2 := h.p
 have h3 := h.f
 have h4 := h.n
 obtain ⟨_, _, g3, g4, g5, _, g7, _⟩ := h.g
 unfold qL
 rw [sS _ (by omega) (by omega), bB, sS _ (by omega) (by simp only [List.length_append]; omega), bB, eZ _ g3 (by simp only [List.length_append]; omega), bB, atq, bB, eZ _ (arX _) (by simp only [List.length_append]; omega), bB, eZ _ g4 (by simp only [List.length_append]; omega), bB, eZ _ g5 (by simp only [List.length_append]; omega), bB, sS _ (by omega) (by simp only [List.length_append]; omega), bB, eZ _ g7 (by simp only [List.length_append]; omega), bB, eZ _ (vH (by omega)) (by simp only [List.length_append]; omega), bB, arS _ h4 h.k _ (by simp only [List.length_append]; omega)]
 simp [yB]
theorem ab4 (b : List Int) {m : aC} (h : Brief m) (hb : b.length ≤ 900000000000) : mE b m = some (b ++ yB m) := by
 have a := gQ m.Topic
 have bb := gQ m.Payload
 have c := gQ m.From
 have e1 := cA m.Level
 have e3 := cA m.Priority
 have e4 := cA m.Expires
 have e5 := cA m.Seq
 have e6 := cA (m.Props.length : Int)
 have h1 := h.t
 have h2 := h.p
 have h3 := h.f
 have h4 := h.n
 obtain ⟨_, _, g3, g4, g5, _, g7, _⟩ := h.g
 have key : ∀ x : Int, okI .i64 x → lS b x m = some (b ++ (qO m.Topic ++ (qO m.Payload ++ (fX m.Level ++ (fX x ++ (fX m.Priority ++ (fX m.Expires ++ (qO m.From ++ (fX m.Seq ++ (fX (m.Props.length : Int) ++ pQ m.Props)))))))))) := fun x gx => by
  have e2 := cA x
  unfold lS
  rw [lN _ (by omega) (by omega), bB, lN _ (by omega) (by simp only [List.length_append]; omega), bB, dA _ g3 (by simp only [List.length_append]; omega), bB, dA _ gx (by simp only [List.length_append]; omega), bB, dA _ g4 (by simp only [List.length_append]; omega), bB, dA _ g5 (by simp only [List.length_append]; omega), bB, lN _ (by omega) (by simp only [List.length_append]; omega), bB, dA _ g7 (by simp only [List.length_append]; omega), bB, dA _ (vH (by omega)) (by simp only [List.length_append]; omega), bB, amN _ h4 h.k _ (by simp only [List.length_append]; omega)]
  simp
 unfold mE yB
 cases m.Retain with
 | true => exact key 1 (afO (by decide) (by decide))
 | false => exact key 0 (afO (by decide) (by decide))
end Md
end PX
