import Derived.Test.YtmcpanmcgpjfiaaGreatDoorNumA
set_option linter.unusedVariables false
set_option linter.unusedSimpArgs false
namespace PX
open Go
namespace Md
theorem aa1 (s : Str) : (ofStr s).length = s.length := by simp [ofStr]
def gQ (s : Str) : List Int := cO (s.length : Int) ++ ofStr s
theorem eN (s : Str) : (gQ s).length ≤ 10 + s.length := by
 have := bR (s.length : Int)
 simp only [gQ, List.length_append, aa1]
 omega
theorem vJ {n : Nat} (h : n ≤ 1000000000000) : okI .i64 (n : Int) := qY (by omega) (by omega)
theorem uI (b : List Int) {s : Str} (hs : s.length ≤ 1000000) (hb : b.length ≤ 10000000000000) : iF b s = some (b ++ gQ s) := by
 have hn := bR (s.length : Int)
 obtain ⟨h0, h1⟩ := apZ (vJ (n := s.length) (by omega))
 obtain ⟨z0, z1⟩ := ac3 h0 h1
 unfold iF ach
 rw [show IntKind.wrap .i64 (10 + (s.length : Int)) = 10 + s.length by rw [IntKind.wrap_i64]; omega, apl b (by omega) (by omega) (by omega), aY, anS h0 h1, aY, akM 9 (zzI (s.length : Int)) b fuel z0 (by omega) z1 (by rw [hY]; omega) (by omega), aY]
 have : (b ++ mY (9 + 1) (zzI (s.length : Int))).length ≤ b.length + 10 := by
  have := ahd (9 + 1) (zzI (s.length : Int))
  simp only [List.length_append]; omega
 rw [aL (by simp [aa1] at this ⊢; omega)]
 simp [gQ, cO]
structure Brief (m : aC) : Prop where
 t : m.Topic.length ≤ 100000
 p : m.Payload.length ≤ 100000
 f : m.From.length ≤ 100000
 n : m.Props.length ≤ 100
 k : ∀ x ∈ m.Props, x.Key.length ≤ 100000 ∧ x.Value.length ≤ 100000
 g : m.good
def oL (l : List aG) : List Int := l.flatMap fun x => gQ x.Key ++ gQ x.Value
def pL (m : aC) : List Int := gQ m.Topic ++ (gQ m.Payload ++ (cO m.Level ++ (cO (if m.Retain then 1 else 0) ++ (cO m.Priority ++ (cO m.Expires ++ (gQ m.From ++ (cO m.Seq ++ (cO (m.Props.length : Int) ++ oL m.Props))))))))
theorem ama : ∀ {l : List aG}, (∀ x ∈ l, x.Key.length ≤ 100000 ∧ x.Value.length ≤ 100000) → (oL l).length ≤ l.length * 200020
 | [], _ => by simp [oL]
 | x :: r, h => by
  have h1 := h x (by simp)
  have ih := ama (l := r) fun y hy => h y (by simp [hy])
  have a := eN x.Key
  have b := eN x.Value
  have e : oL (x :: r) = (gQ x.Key ++ gQ x.Value) ++ oL r := rfl
  rw [e, List.length_append, List.length_append, List.length_cons]
  omega
theorem awT (b : Bool) : adI [b] = some (if b then 1 else 0) := by cases b <;> kernel_rfl
theorem at0 (l : List aG) (hl : l.length ≤ 100) (hk : ∀ x ∈ l, x.Key.length ≤ 100000 ∧ x.Value.length ≤ 100000) (b : List Int) (hb : b.length ≤ 1000000000000) : nC fuel l (l.length : Int) 0 b = some (b ++ oL l) := by
 exact uT (l := l) (F := fun fu i (w : List Int) => nC fu l (l.length : Int) i w) (g := fun r w => some (w ++ oL r)) (fun i w => w.length ≤ 1000000000000 + i * 300000)
  (fun fu w _ => by rw [nC, aS (by simp)]; simp [oL])
  (fun fu i w hi hw ih => by
   obtain ⟨h1, h2⟩ := hk _ (List.getElem_mem hi)
   have a := eN l[i].Key
   have c := eN l[i].Value
   rw [nC, aL (hI hi), aL (inr hi), cI hi, uI _ (by omega) (by omega), aY, uI _ (by omega) (by simp only [List.length_append]; omega), aY, cF (by omega), ih _ (by simp only [List.length_append]; omega)]
   have e : ∀ r, oL (l[i] :: r) = (gQ l[i].Key ++ gQ l[i].Value) ++ oL r := fun _ => rfl
   rw [e]; simp) (by omega) b (by omega)
theorem agZ {m : aC} (h : Brief m) : (pL m).length ≤ 30000000 := by
 have a := eN m.Topic
 have b := eN m.Payload
 have c := eN m.From
 have d := ama h.k
 have e1 := bR m.Level
 have e2 := bR (if m.Retain then 1 else 0)
 have e3 := bR m.Priority
 have e4 := bR m.Expires
 have e5 := bR m.Seq
 have e6 := bR (m.Props.length : Int)
 have := h.t
 have := h.p
 have := h.f
 have := h.n
 simp only [pL, List.length_append]
 omega
theorem auq (b : Bool) : okI .i64 (if b then 1 else 0 : Int) := by cases b <;> exact qY (by decide) (by decide)
theorem ajt (b : List Int) {m : aC} (h : Brief m) (hb : b.length ≤ 900000000000) : sH b m = some (b ++ pL m) := by
 have a := eN m.Topic
 have bb := eN m.Payload
 have c := eN m.From
 have e1 := bR m.Level
 have e2 := bR (if m.Retain then 1 else 0)
 have e3 := bR m.Priority
 have e4 := bR m.Expires
 have e5 := bR m.Seq
 have e6 := bR (m.Props.length : Int)
 have h1 := h.t
 have h2 := h.p
 have h3 := h.f
 have h4 := h.n
 obtain ⟨_, _, g3, g4, g5, _, g7, _⟩ := h.g
 unfold sH
 rw [uI _ (by omega) (by omega), aY, uI _ (by omega) (by simp only [List.length_append]; omega), aY, fR _ g3 (by simp only [List.length_append]; omega), aY, awT, aY, fR _ (auq _) (by simp only [List.length_append]; omega), aY, fR _ g4 (by simp only [List.length_append]; omega), aY, fR _ g5 (by simp only [List.length_append]; omega), aY, uI _ (by omega) (by simp only [List.length_append]; omega), aY, fR _ g7 (by simp only [List.length_append]; omega), aY, fR _ (vJ (by omega)) (by simp only [List.length_append]; omega), aY, at0 _ h4 h.k _ (by simp only [List.length_append]; omega)]
 simp [pL]
end Md
end PX
