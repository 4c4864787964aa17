import Derived.Test.YtdgmdomlghamdaaGreatDoorWrA
set_option linter.unusedVariables false
set_option linter.unusedSimpArgs false
namespace PX
open Go
namespace Md
theorem avc {m : aF} (h : MsgD m) : amq m := by
 have h1 := h.t; have h2 := h.p; have h3 := h.f; have h4 := h.n
 refine ⟨by omega, by omega, by omega, by omega, fun x hx => ?_, awi h⟩
 have := h.ps x hx
 omega
theorem asv {b : List Int} {m : aF} (h : MsgD m) (hb : b.length ≤ 900000000000) : uS b m = some (b ++ sS m) := auC b (avc h) hb
theorem alo {b : List Int} {m : aF} (h : MsgD m) (hb : b.length ≤ 900000000000) : nN b m = some (b ++ sS m) := ao7 b (avc h) hb
theorem ajT (a : Bool) : pN [a] = some (gF a) := aq4 a
theorem avq (a b : Bool) : pN [a, b] = some (gF a + 2 * gF b) := by cases a <;> cases b <;> kernel_rfl
theorem aaB (a b : Bool) : lW a b = some (gF a + 2 * gF b) := by cases a <;> cases b <;> kernel_rfl
theorem ajK (a b : Bool) : okI .i64 (gF a + 2 * gF b) := by cases a <;> cases b <;> exact uR (by decide) (by decide)
theorem xP {b : List Int} {x : Int} (h : i64 x) (hb : b.length ≤ 90000000000000) : cL b x = some (b ++ cK x) := vR b (eW h) hb
theorem jT {b : List Int} {x : Int} (h : i64 x) (hb : b.length ≤ 90000000000000) : bP b x = some (b ++ cK x) := mM b (eW h) hb
theorem ar4 (b : List Int) {p : aA} (h : uM p) (hk : p.Kind = 1) (hb : b.length ≤ 1000) : yF b p = some (b ++ afU p) := by
 obtain ⟨h1, h2, h3⟩ := h.cl hk
 have a1 := dM p.Client
 have a2 := dM p.User
 have a3 := bM (gF p.Clean + 2 * gF p.Will.Set)
 unfold yF
 rw [tU _ (by omega) (by omega), aU, tU _ (by omega) (by simp only [List.length_append]; omega), aU, avq, aU, vR _ (ajK _ _) (by simp only [List.length_append]; omega), aU,
  arX (F := fun fu i w => nZ fu (([p.Keep, p.Expiry, p.Window].length : Nat) : Int) i p w [p.Keep, p.Expiry, p.Window]) (l := [p.Keep, p.Expiry, p.Window]) (f := cK) (aaF p.Will) i64 (by intro x hx; simp only [List.mem_cons, List.not_mem_nil, or_false] at hx; rcases hx with rfl | rfl | rfl; exact h.keep; exact h.exp; exact h.win) (by simp) (fun x _ => by have := bM x; omega)
   (fun fu w hw => by
    rw [nZ, aQ (by simp)]
    unfold aaF
    cases hs : p.Will.Set with
    | true =>
     have e := bM p.Will.Delay
     rw [gV, if_pos rfl, xP h.del (by omega), aU, asv (h3 hs) (by simp only [List.length_append]; omega), aU, List.append_assoc]
    | false => rw [iZ, if_neg (by decide), List.append_nil])
   (fun fu i w hi hp hw => by have : i < 3 := hi; rw [nZ, aL (iV hi), aL (inr hi), cR hi, xP hp (by omega), aU, bZ (by omega)]) _ (by simp only [List.length_append]; omega)]
 simp [afU]
theorem amh (b : List Int) {p : aA} (h : uM p) (hk : p.Kind = 1) (hb : b.length ≤ 1000) : oX b p = some (b ++ afU p) := by
 obtain ⟨h1, h2, h3⟩ := h.cl hk
 have a1 := dM p.Client
 have a2 := dM p.User
 have a3 := bM (gF p.Clean + 2 * gF p.Will.Set)
 have a4 := bM p.Keep
 have a5 := bM p.Expiry
 have a6 := bM p.Window
 unfold oX
 rw [kA _ (by omega) (by omega), aU, kA _ (by omega) (by simp only [List.length_append]; omega), aU, aaB, aU, mM _ (ajK _ _) (by simp only [List.length_append]; omega), aU,
  jT h.keep (by simp only [List.length_append]; omega), aU, jT h.exp (by simp only [List.length_append]; omega), aU, jT h.win (by simp only [List.length_append]; omega), aU]
 unfold afU aaF
 cases hs : p.Will.Set with
 | true =>
  have e := bM p.Will.Delay
  rw [hs] at a3
  rw [gV, if_pos rfl, jT h.del (by simp only [List.length_append]; omega), aU, alo (h3 hs) (by simp only [List.length_append]; omega), aU]
  simp only [List.append_assoc]
 | false => rw [iZ, if_neg (by decide)]; simp only [List.append_assoc, List.append_nil]
theorem xL {α ρ : Type} {l : List α} {F : Nat → Int → List Int → Option ρ} {f : α → List Int} (T : List Int → Option ρ) (P : α → Prop) (hP : ∀ x ∈ l, P x) (hl : l.length ≤ 1000) (hf : ∀ x, P x → (f x).length ≤ 100000)
  (h0 : ∀ fu w, w.length ≤ 200000000 → F (fu + 1) (l.length : Int) w = T w)
  (h1 : ∀ fu i w (hi : i < l.length), P l[i] → w.length ≤ 200000000 → F (fu + 1) (i : Int) w = F fu ((i + 1 : Nat) : Int) (w ++ f l[i])) (b : List Int) (hb : b.length ≤ 100000000) : F fuel 0 b = T (b ++ l.flatMap f) := by
 refine sA (l := l) (F := F) (g := fun r w => T (w ++ r.flatMap f)) (fun i w => w.length ≤ 100000000 + i * 100000) (fun fu w hw => by rw [h0 _ _ (by omega)]; simp) (fun fu i w hi hw ih => ?_) (by omega) b (by omega)
 have hp := hP _ (List.getElem_mem hi)
 have := hf _ hp
 rw [h1 fu i w hi hp (by omega), ih _ (by simp only [List.length_append]; omega)]
 simp [-List.getElem_cons_drop]
theorem aq8 {x : aH} (h : SubD x) : (zA x).length ≤ 118 := by
 have a := dM x.Filter
 have b := bM x.Level
 have c := bM (gF x.NoLocal)
 have := h.1
 simp only [zA, List.length_append]
 omega
theorem aco (a : Bool) : i64 (gF a) := nP (ayP a)
theorem uW {n : Nat} (h : n ≤ 1000000) : i64 (n : Int) := ⟨by omega, by omega⟩
theorem awx (b : List Int) {l : List aH} (hl : l.length ≤ 32) (h : ∀ x ∈ l, SubD x) (hb : b.length ≤ 1000) : p8 b l = some (b ++ n7 zA l) := by
 have e := bM (l.length : Int)
 unfold p8
 rw [xP (uW (by omega)) (by omega), aU, xL (F := fun fu i w => jI fu l (l.length : Int) i w) (f := zA) some SubD h (by omega) (fun x h => by have := aq8 h; omega) (fun fu w _ => by rw [jI, aQ (by simp)])
  (fun fu i w hi hp hw => by
   have a1 := dM l[i].Filter
   have a2 := bM l[i].Level
   have := hp.1
   rw [jI, aL (iV hi), aL (inr hi), cR hi, tU _ (by omega) (by omega), aU, xP hp.2 (by simp only [List.length_append]; omega), aU, ajT, aU, xP (aco _) (by simp only [List.length_append]; omega), aU, bZ (by omega)]
   simp [zA]) _ (by simp only [List.length_append]; omega)]
 simp [n7]
theorem av6 (b : List Int) {p : aA} (hl : p.Subs.length ≤ 32) (h : ∀ x ∈ p.Subs, SubD x) (hb : b.length ≤ 1000) : (Option.bind (bP b (List.length p.Subs : Int)) fun r1 => iS fuel 0 p r1) = some (b ++ n7 zA p.Subs) := by
 have e := bM (p.Subs.length : Int)
 rw [jT (uW (by omega)) (by omega), aU, xL (l := p.Subs) (F := fun fu i w => iS fu i p w) (f := zA) some SubD h (by omega) (fun x h => by have := aq8 h; omega) (fun fu w _ => by rw [iS, aQ (by simp)])
  (fun fu i w hi hp hw => by
   have a1 := dM p.Subs[i].Filter
   have a2 := bM p.Subs[i].Level
   have := hp.1
   rw [iS, aL (iV hi)]
   simp only [aL (inr hi), cR hi]
   rw [kA _ (by omega) (by omega), aU, jT hp.2 (by simp only [List.length_append]; omega), aU, aaB, aU, jT (nP (ajK _ _)) (by simp only [List.length_append]; omega), aU, bZ (by omega)]
   have : gF p.Subs[i].NoLocal + 2 * gF false = gF p.Subs[i].NoLocal := by show gF p.Subs[i].NoLocal + 2 * 0 = _; omega
   rw [this]
   simp [zA]) _ (by simp only [List.length_append]; omega)]
 simp [n7]
theorem aoM (b : List Int) {p : aA} (hl : p.Codes.length ≤ 32) (h : ∀ x ∈ p.Codes, i64 x) (hb : b.length ≤ 1000) : (Option.bind (bP b (List.length p.Codes : Int)) fun r1 => iE fuel 0 p r1) = some (b ++ n7 cK p.Codes) := by
 have e := bM (p.Codes.length : Int)
 rw [jT (uW (by omega)) (by omega), aU, xL (l := p.Codes) (F := fun fu i w => iE fu i p w) (f := cK) some i64 h (by omega) (fun x h => by have := bM x; omega) (fun fu w _ => by rw [iE, aQ (by simp)])
  (fun fu i w hi hp hw => by rw [iE, aL (iV hi), aL (inr hi), cR hi, jT hp (by omega), aU, bZ (by omega)]) _ (by simp only [List.length_append]; omega)]
 simp [n7]
theorem aoq (b : List Int) {l : List Int} (hl : l.length ≤ 32) (h : ∀ x ∈ l, i64 x) (hb : b.length ≤ 1000) : (Option.bind (cL b (List.length l : Int)) fun r17 => kI fuel l (List.length l : Int) 0 r17) = some (b ++ n7 cK l, 0) := by
 have e := bM (l.length : Int)
 rw [xP (uW (by omega)) (by omega), aU, xL (F := fun fu i w => kI fu l (l.length : Int) i w) (f := cK) (fun w => some (w, 0)) i64 h (by omega) (fun x h => by have := bM x; omega) (fun fu w _ => by rw [kI, aQ (by simp)])
  (fun fu i w hi hp hw => by rw [kI, aL (iV hi), aL (inr hi), cR hi, xP hp (by omega), aU, bZ (by omega)]) _ (by simp only [List.length_append]; omega)]
 simp [n7]
theorem add_eq {b : List Int} {x : Int} (h : i64 x) (hb : b.length ≤ 90000000000000) : uJ b x = some (b ++ cK x) := by
 have := xP h hb
 unfold cL at this
 rw [ahF _ (by decide) (by decide) (by omega), aU] at this
 cases e : uJ b x with
 | none => rw [e] at this; cases this
 | some r => rw [e] at this; exact this
theorem auu (b : List Int) {l : List Str} (hl : l.length ≤ 32) (h : ∀ x ∈ l, x.length ≤ 88) (hb : b.length ≤ 1000) : wT b l = some (b ++ n7 fW l) := by
 have e := bM (l.length : Int)
 unfold wT
 rw [ahF _ (by decide) (by decide) (by omega), aU, add_eq (uW (by omega)) (by omega), aU, xL (F := fun fu i w => mO fu l (l.length : Int) i w) (f := fW) some (fun s => s.length ≤ 88) h (by omega) (fun x h => by have := dM x; omega) (fun fu w _ => by rw [mO, aQ (by simp)])
  (fun fu i w hi hp hw => by
   have a1 := bM (l[i].length : Int)
   have a2 := af8 l[i]
   rw [mO, aL (iV hi), aL (inr hi), cR hi, add_eq (uW (by omega)) (by omega), aU, aL (by simp only [decide_eq_true_eq, List.length_append]; omega), bZ (by omega)]
   simp [fW]) _ (by simp only [List.length_append]; omega)]
 simp [n7]
theorem avH (b : List Int) {l : List Str} (hl : l.length ≤ 32) (h : ∀ x ∈ l, x.length ≤ 88) (hb : b.length ≤ 1000) : nT b l = some (b ++ n7 fW l) := by
 have e := bM (l.length : Int)
 unfold nT
 rw [jT (uW (by omega)) (by omega), aU, xL (F := fun fu i w => iH fu l i w) (f := fW) some (fun s => s.length ≤ 88) h (by omega) (fun x h => by have := dM x; omega) (fun fu w _ => by rw [iH, aQ (by simp)])
  (fun fu i w hi hp hw => by rw [iH, aL (iV hi), aL (inr hi), cR hi, kA _ (by omega) (by omega), aU, bZ (by omega)]) _ (by simp only [List.length_append]; omega)]
 simp [n7]
def tJ (p : aA) : List Int × Int := cond (jE p != 0) ([], jE p) (xN p, 0)
theorem amR {p : aA} (h : uM p) : i64 p.Kind := by
 have := h.k
 rw [nS] at this
 exact ⟨by omega, by omega⟩
theorem awF (p : aA) (g : p.good) : aaj p = some (tJ p) := by
 unfold aaj tJ
 rw [afO p g, aU]
 by_cases c : jE p = 0
 ·rw [c, aQ (by simp), aQ (by simp)]
  have h := aaR c g
  have a1 := bM p.Kind
  have a2 := bM p.ID
  rw [xP (amR h) (by simp), aU, List.nil_append]
  unfold xN adG
  have i1 : cL (cK p.Kind) p.ID = some (cK p.Kind ++ cK p.ID) := xP h.id (by omega)
  generalize cK p.Kind = B at *
  rcases qT h.k with k | k | k | k | k | k | k | k | k | k | k | k | k | k <;> simp only [k, show ∀ a b : Int, (a == b) = decide (a = b) from fun a b => rfl, Int.reduceEq, decide_true, decide_false, gV, iZ]
  ·rw [ar4 _ h k (by omega)]; rfl
  ·rw [ajT, aU, xP (aco _) (by omega), aU, xP h.code (by have := bM (gF p.Present); simp only [List.length_append]; omega), aU]; simp
  ·rw [i1, aU, ajT, aU, xP (aco _) (by simp only [List.length_append]; omega), aU, asv (h.ms k) (by have := bM (gF p.Dup); simp only [List.length_append]; omega), aU]; simp
  ·rw [i1, aU]; simp
  ·rw [i1, aU]; simp
  ·rw [i1, aU]; simp
  ·rw [i1, aU]; simp
  ·rw [i1, aU, awx _ (h.sb k).1 (h.sb k).2 (by simp only [List.length_append]; omega), aU]; simp
  ·rw [i1, aU, aoq _ (h.cd (.inl k)).1 (h.cd (.inl k)).2 (by simp only [List.length_append]; omega)]; simp
  ·rw [i1, aU, auu _ (h.fl k).1 (h.fl k).2 (by simp only [List.length_append]; omega), aU]; simp
  ·rw [i1, aU, aoq _ (h.cd (.inr k)).1 (h.cd (.inr k)).2 (by simp only [List.length_append]; omega)]; simp
  ·simp
  ·simp
  ·rw [xP h.code (by omega), aU]
 ·rw [aL (by simpa using c), aL (by simpa using c)]
theorem axE (p : aA) (g : p.good) : pP p = some (tJ p) := by
 unfold pP tJ
 rw [adk p g, aU]
 by_cases c : jE p = 0
 ·rw [c, aQ (by simp), aQ (by simp)]
  have h := aaR c g
  have a1 := bM p.Kind
  have a2 := bM p.ID
  rw [jT (amR h) (by simp), aU, List.nil_append]
  unfold xN adG pK uU
  have i1 : bP (cK p.Kind) p.ID = some (cK p.Kind ++ cK p.ID) := jT h.id (by omega)
  have f1 : ∀ x : Bool, gF x + 2 * gF false = gF x := fun x => by show gF x + 2 * 0 = _; omega
  generalize cK p.Kind = B at *
  rcases qT h.k with k | k | k | k | k | k | k | k | k | k | k | k | k | k <;> simp only [k, show ∀ a b : Int, (a == b) = decide (a = b) from fun a b => rfl, Int.reduceEq, Int.reduceLE, decide_true, decide_false, gV, iZ]
  ·rw [amh _ h k (by omega)]; rfl
  ·rw [aaB, aU, f1, jT (aco _) (by omega), aU, jT h.code (by have := bM (gF p.Present); simp only [List.length_append]; omega), aU]; simp
  ·rw [i1, aU, aaB, aU, f1, jT (aco _) (by simp only [List.length_append]; omega), aU, alo (h.ms k) (by have := bM (gF p.Dup); simp only [List.length_append]; omega), aU]; simp
  ·rw [i1, aU]; simp
  ·rw [i1, aU]; simp
  ·rw [i1, aU]; simp
  ·rw [i1, aU]; simp
  ·rw [i1, aU, av6 _ (h.sb k).1 (h.sb k).2 (by simp only [List.length_append]; omega), aU]; simp
  ·rw [i1, aU, aoM _ (h.cd (.inl k)).1 (h.cd (.inl k)).2 (by simp only [List.length_append]; omega), aU]; simp
  ·rw [i1, aU, avH _ (h.fl k).1 (h.fl k).2 (by simp only [List.length_append]; omega), aU]; simp
  ·rw [i1, aU, aoM _ (h.cd (.inr k)).1 (h.cd (.inr k)).2 (by simp only [List.length_append]; omega), aU]; simp
  ·simp
  ·simp
  ·rw [jT h.code (by omega), aU]
 ·rw [aL (by simpa using c), aL (by simpa using c)]
end Md
end PX
set_option linter.unusedVariables false
set_option linter.unusedSimpArgs false
namespace PX
open Go
namespace Md
theorem aqn {m : aF} (h : MsgD m) : (sS m).length ≤ 2100 := by
 have h1 := h.t; have h2 := h.p; have h3 := h.f; have h4 := h.n
 have a := dM m.Topic
 have b := dM m.Payload
 have c := dM m.From
 have d := ahI (fun x : aB => fW x.Key ++ fW x.Value) 196 8 h4 fun x hx => by
  have := h.ps x hx
  have a := dM x.Key
  have b := dM x.Value
  simp only [List.length_append]; omega
 have e1 := bM m.Level
 have e2 := bM (if m.Retain then 1 else 0)
 have e3 := bM m.Priority
 have e4 := bM m.Expires
 have e5 := bM m.Seq
 have e6 := bM (m.Props.length : Int)
 simp only [sS, mG, List.length_append]
 omega
theorem ah9 {α : Type} (w : α → List Int) (n : Nat) {l : List α} (hl : l.length ≤ 32) (h : ∀ x ∈ l, (w x).length ≤ n) : (n7 w l).length ≤ 10 + 32 * n := by
 have a := bM (l.length : Int)
 have b := ahI w n 32 hl h
 simp only [n7, List.length_append]
 omega
theorem aaN {p : aA} (h : uM p) : (xN p).length ≤ 4096 := by
 have a1 := bM p.Kind
 have a2 := bM p.ID
 have a3 := bM p.Code
 have a4 := bM (gF p.Present)
 have a5 := bM (gF p.Dup)
 unfold xN adG
 generalize cK p.Kind = B at *
 rcases qT h.k with k | k | k | k | k | k | k | k | k | k | k | k | k | k <;> simp only [k, show ∀ a b : Int, (a == b) = decide (a = b) from fun a b => rfl, Int.reduceEq, decide_true, decide_false, gV, iZ, List.length_append, List.length_nil]
 ·obtain ⟨h1, h2, h3⟩ := h.cl k
  have b1 := dM p.Client
  have b2 := dM p.User
  have b3 := bM (gF p.Clean + 2 * gF p.Will.Set)
  have b4 := bM p.Keep
  have b5 := bM p.Expiry
  have b6 := bM p.Window
  have b7 := bM p.Will.Delay
  have b8 : (aaF p.Will).length ≤ 2110 := by
   unfold aaF
   split
   ·rename_i hs
    have := aqn (h3 hs)
    simp only [List.length_append]; omega
   ·simp
  simp only [afU, List.length_append]
  omega
 ·omega
 ·have := aqn (h.ms k); omega
 ·omega
 ·omega
 ·omega
 ·omega
 ·have := ah9 zA 118 (h.sb k).1 fun x hx => aq8 ((h.sb k).2 x hx); omega
 ·have := ah9 cK 10 (h.cd (.inl k)).1 fun x hx => bM x; omega
 ·have := ah9 fW 98 (h.fl k).1 fun x hx => by
   have := dM x
   have := (h.fl k).2 x hx
   omega
  omega
 ·have := ah9 cK 10 (h.cd (.inr k)).1 fun x hx => bM x; omega
 ·omega
 ·omega
 ·omega
theorem al6 {p : aA} (g : p.good) : (tJ p).1.length ≤ 4096 := by
 unfold tJ
 by_cases c : jE p = 0
 ·rw [c, aQ (by simp)]; exact aaN (aaR c g)
 ·rw [aL (by simpa using c)]; simp
theorem akz {p : aA} (h : uM p) : byt (xN p) := by
 unfold xN adG
 have hid := fY h.id
 have hcode := fY h.code
 refine dC (fY (amR h)) ?_
 have nil : byt [] := fun x hx => by cases hx
 rcases qT h.k with k | k | k | k | k | k | k | k | k | k | k | k | k | k <;> simp only [k, show ∀ a b : Int, (a == b) = decide (a = b) from fun a b => rfl, Int.reduceEq, decide_true, decide_false, gV, iZ]
 ·obtain ⟨h1, h2, h3⟩ := h.cl k
  refine dC (zU (by omega)) (dC (zU (by omega)) (dC (fY (nP (ajK _ _))) (dC (fY h.keep) (dC (fY h.exp) (dC (fY h.win) ?_)))))
  unfold aaF
  split
  ·rename_i hs
   exact dC (fY h.del) (asf (h3 hs))
  ·exact nil
 ·exact dC (akw _) hcode
 ·exact dC hid (dC (akw _) (asf (h.ms k)))
 ·exact dC hid nil
 ·exact dC hid nil
 ·exact dC hid nil
 ·exact dC hid nil
 ·refine dC hid (ah8 zA 32 (h.sb k).1 (by decide) fun x hx => ?_)
  have := (h.sb k).2 x hx
  exact dC (zU (by have := this.1; omega)) (dC (fY this.2) (akw _))
 ·exact dC hid (ah8 cK 32 (h.cd (.inl k)).1 (by decide) fun x hx => fY ((h.cd (.inl k)).2 x hx))
 ·refine dC hid (ah8 fW 32 (h.fl k).1 (by decide) fun x hx => zU ?_)
  have := (h.fl k).2 x hx
  omega
 ·exact dC hid (ah8 cK 32 (h.cd (.inr k)).1 (by decide) fun x hx => fY ((h.cd (.inr k)).2 x hx))
 ·exact nil
 ·exact nil
 ·exact hcode
end Md
end PX
set_option linter.unusedVariables false
set_option linter.unusedSimpArgs false
namespace PX
open Go
namespace Md
def acu {ρ β : Type} (x0 : List Int) (R : Rd β) (K : aK → Option ρ) (G : β → List Int → Option ρ → Prop) (B : Int → Option ρ → Prop) : Prop :=
 ∀ p : Nat, p ≤ x0.length → match R (x0.drop p) with | .ok y q => G y q (K ⟨x0, p⟩) | .er e _ => B e (K ⟨x0, p⟩)
def GP {α : Type} (x0 : List Int) (y : α) (q : List Int) (o : Option (aP ⊕ (α × aK))) : Prop := ∃ a : Nat, a ≤ x0.length ∧ x0.drop a = q ∧ o = some (.inr (y, ⟨x0, a⟩))
def BP {α : Type} (e : Int) (o : Option (aP ⊕ (α × aK))) : Prop := o = some (.inl ⟨e⟩)
abbrev qN {α : Type} (x0 : List Int) (R : Rd α) (F : aK → Option (aP ⊕ (α × aK))) : Prop := acu x0 R F (GP x0) BP
end Md
end PX
set_option linter.unusedVariables false
set_option linter.unusedSimpArgs false
namespace PX
open Go
namespace Md
def fl0 (x : Int) : Bool := (bY .and .i64 (shr .i64 x 0) 1) == 1
def fl1 (x : Int) : Bool := (bY .and .i64 (shr .i64 x 1) 1) == 1
abbrev pk (k i : Int) (d : Bool) (m : aF) (pr : Bool) (co : Int) (s : List aH) (f : List Str) (c : List Int) : aA :=
 aA.mk k i d m ([] : Str) ([] : Str) false 0 0 0 (aY.mk false 0 zeroM) pr co s f c
abbrev alE (c u : Str) (cl : Bool) (k e w : Int) (s : Bool) (d : Int) (m : aF) : aA :=
 aA.mk 1 0 false zeroM c u cl k e w (aY.mk s d m) false 0 ([] : List aH) ([] : List Str) ([] : List Int)
def afH : Rd aA := bS (hJ 16) fun c => bS (hJ 16) fun u => bS (vL 4) fun f => bS gH fun k => bS gH fun e => bS gH fun w =>
 cond (fl1 f) (bS gH fun d => bS aaL fun m => fB (alE c u (fl0 f) k e w (fl1 f) d m)) (fB (alE c u (fl0 f) k e w (fl1 f) 0 zeroM))
def aeN (k : Int) : Rd aA :=
 cond (k == 1) afH (cond (k == 2) (bS zN fun f => bS gH fun c => fB (pk k 0 false zeroM f c [] [] []))
 (cond (k == 3) (bS gH fun i => bS zN fun d => bS aaL fun m => fB (pk k i d m false 0 [] [] []))
 (cond (k == 4 || (k == 5 || (k == 6 || k == 7))) (bS gH fun i => fB (pk k i false zeroM false 0 [] [] []))
 (cond (k == 8) (bS gH fun i => bS (tF 32 aeM) fun l => fB (pk 8 i false zeroM false 0 l [] []))
 (cond (k == 9 || k == 11) (bS gH fun i => bS (tF 32 gH) fun l => fB (pk k i false zeroM false 0 [] [] l))
 (cond (k == 10) (bS gH fun i => bS (tF 32 (hJ 88)) fun l => fB (pk 10 i false zeroM false 0 [] l []))
 (cond (k == 14) (bS gH fun c => fB (pk k 0 false zeroM false c [] [] []))
 (fB (pk k 0 false zeroM false 0 [] [] [])))))))))
end Md
end PX
set_option linter.unusedVariables false
set_option linter.unusedSimpArgs false
namespace PX
open Go
namespace Md
abbrev jB : aA := pk 0 0 false zeroM false 0 [] [] []
def abQ : Rd aA := bS gH fun k => if rngB 1 14 k = true then aeN k else abu 10 (by decide)
def ant (y : aA) (q : List Int) : aA × Int := if q = [] then (if jE y = 0 then (y, 0) else (jB, jE y)) else (jB, 2)
def yK (x0 : List Int) : aA × Int := if x0.length > 4096 then (jB, 5) else match abQ x0 with | .ok y q => ant y q | .er e _ => (jB, e)
def GD (y : aA) (q : List Int) (o : Option (aA × Int)) : Prop := y.good → o = some (ant y q)
def BD (e : Int) (o : Option (aA × Int)) : Prop := o = some (jB, e)
end Md
end PX
set_option linter.unusedVariables false
set_option linter.unusedSimpArgs false
namespace PX
open Go
namespace Md
def Has {α : Type} (r : Rd α) (D : α → Prop) : Prop := ∀ l x q, byt l → r l = .ok x q → D x ∧ byt q
end Md
end PX
set_option linter.unusedVariables false
set_option linter.unusedSimpArgs false
namespace PX
open Go
namespace Md
def tA : Nat → List Int → List aA → List aA × Int
 | 0, _, w => (w, 0)
 | n + 1, [], w => (w, 0)
 | n + 1, l, w => match hJ 4096 l with
  | .er e _ => ([], e)
  | .ok s q => if (yK (ofStr s)).2 = 0 then tA n q (w ++ [(yK (ofStr s)).1]) else ([], (yK (ofStr s)).2)
end Md
end PX
set_option linter.unusedVariables false
set_option linter.unusedSimpArgs false
namespace PX
open Go
namespace Md
def Btn {α : Type} (r : Rd α) (b : List Int) (x : α) : Prop := gX r b x ∧ rD r b
def as0 (p : aA) : aA :=
 cond (p.Kind == 1) (alE p.Client p.User p.Clean p.Keep p.Expiry p.Window p.Will.Set p.Will.Delay p.Will.Message) (cond (p.Kind == 2) (pk p.Kind 0 false zeroM p.Present p.Code [] [] [])
  (cond (p.Kind == 3) (pk p.Kind p.ID p.Dup p.Message false 0 [] [] []) (cond (p.Kind == 4 || (p.Kind == 5 || (p.Kind == 6 || p.Kind == 7))) (pk p.Kind p.ID false zeroM false 0 [] [] [])
  (cond (p.Kind == 8) (pk 8 p.ID false zeroM false 0 p.Subs [] []) (cond (p.Kind == 9 || p.Kind == 11) (pk p.Kind p.ID false zeroM false 0 [] [] p.Codes) (cond (p.Kind == 10) (pk 10 p.ID false zeroM false 0 [] p.Filters [])
  (cond (p.Kind == 14) (pk p.Kind 0 false zeroM false p.Code [] [] []) (pk p.Kind 0 false zeroM false 0 [] [] []))))))))
end Md
end PX
set_option linter.unusedVariables false
set_option linter.unusedSimpArgs false
namespace PX
open Go
namespace Md
theorem awD (x : Int) : IntKind.wrap .u32 x = x % 4294967296 := by
 simp only [IntKind.wrap, IntKind.signed, IntKind.bits]; simp
theorem aDu {a b : Nat} (ha : a < 2 ^ 32) (hb : b < 2 ^ 32) : bY .xor .u32 (a : Int) (b : Int) = ((a ^^^ b : Nat) : Int) := by
 have hx := Nat.xor_lt_two_pow ha hb
 unfold bY
 simp only
 rw [awD, BitVec.toNat_xor, BitVec.toNat_ofInt, BitVec.toNat_ofInt]
 show (((((a : Int) % (2 ^ 32 : Nat)).toNat ^^^ ((b : Int) % (2 ^ 32 : Nat)).toNat) : Nat) : Int) % _ = _
 rw [show ((a : Int) % (2 ^ 32 : Nat)).toNat = a by omega, show ((b : Int) % (2 ^ 32 : Nat)).toNat = b by omega]
 omega
theorem aDi {a b : Nat} (ha : a < 2 ^ 32) (hb : b < 2 ^ 32) : bY .xor .u64 (a : Int) (b : Int) = ((a ^^^ b : Nat) : Int) := by
 have hx := Nat.xor_lt_two_pow ha hb
 unfold bY
 simp only
 rw [pR, BitVec.toNat_xor, BitVec.toNat_ofInt, BitVec.toNat_ofInt]
 show (((((a : Int) % (2 ^ 64 : Nat)).toNat ^^^ ((b : Int) % (2 ^ 64 : Nat)).toNat) : Nat) : Int) % _ = _
 rw [show ((a : Int) % (2 ^ 64 : Nat)).toNat = a by omega, show ((b : Int) % (2 ^ 64 : Nat)).toNat = b by omega]
 omega
def acn (h b : Nat) : Nat := ((h ^^^ b) * 16777619) % 4294967296
def fnv : Nat → List Int → Nat
 | h, [] => h
 | h, x :: r => fnv (acn h x.toNat) r
theorem aaY (h b : Nat) : acn h b < 4294967296 := Nat.mod_lt _ (by decide)
theorem avE : ∀ {l : List Int} {h : Nat}, h < 4294967296 → fnv h l < 4294967296
 | [], h, hh => hh
 | x :: r, h, _ => avE (l := r) (aaY _ _)
theorem apS (h n : Nat) (x : Int) (r : List Int) (e : x = (n : Int)) : fnv h (x :: r) = fnv (acn h n) r := by subst e; rfl
theorem auJ {l : List Int} (hb : byt l) (hl : l.length ≤ 1000000000) : aaT l = some ((fnv 2166136261 l : Nat) : Int) := by
 unfold aaT
 refine sA (l := l) (F := fun fu i (h : Nat) => sZ fu (h : Int) l (l.length : Int) i) (g := fun r h => some ((fnv h r : Nat) : Int)) (fun _ h => h < 4294967296)
  (fun fu h hh => ?_) (fun fu i h hi h2 ih => ?_) (by omega) 2166136261 (by decide)
 ·have e : IntKind.wrap .i64 (h : Int) = (h : Int) := by rw [IntKind.wrap_i64]; omega
  rw [sZ, aQ (by simp), e, fnv]
 ·have hx := hb _ (List.getElem_mem hi)
  obtain ⟨n, hn⟩ := Int.eq_ofNat_of_zero_le hx.1
  have e1 : IntKind.wrap .u32 (l[i]) = (n : Int) := by rw [awD, hn]; omega
  have e2 : IntKind.wrap .u32 (bY .xor .u32 (h : Int) (n : Int) * 16777619) = ((acn h n : Nat) : Int) := by
   rw [aDu h2 (by omega), awD]
   unfold acn
   omega
  rw [sZ, aL (iV hi), aL (inr hi), cR hi, e1, e2, bZ (by omega), ih _ (aaY _ _), apS h n _ _ hn]
theorem ayM {l : List Int} (hb : byt l) (hl : l.length ≤ 1000000000) : tN l = some ((fnv 2166136261 l : Nat) : Int) := by
 unfold tN
 refine sA (l := l) (F := fun fu i (h : Nat) => k9 fu l (h : Int) i) (g := fun r h => some ((fnv h r : Nat) : Int)) (fun _ h => h < 4294967296)
  (fun fu h hh => ?_) (fun fu i h hi h2 ih => ?_) (by omega) 2166136261 (by decide)
 ·have e : IntKind.wrap .i64 (h : Int) = (h : Int) := by rw [IntKind.wrap_i64]; omega
  rw [k9, aQ (by simp), e, fnv]
 ·have hx := hb _ (List.getElem_mem hi)
  obtain ⟨n, hn⟩ := Int.eq_ofNat_of_zero_le hx.1
  have e1 : IntKind.wrap .u64 (l[i]) = (n : Int) := by rw [pR, hn]; omega
  have hxl := Nat.xor_lt_two_pow (n := 32) h2 (show n < 2 ^ 32 by omega)
  have e2 : Int.tmod (IntKind.wrap .u64 (bY .xor .u64 (h : Int) (n : Int) * 16777619)) 4294967296 = ((acn h n : Nat) : Int) := by
   rw [aDi h2 (by omega), pR]
   unfold acn
   rw [Int.tmod_eq_emod_of_nonneg (by omega)]
   omega
  rw [k9, aL (iV hi), aL (inr hi), cR hi, e1, e2, bZ (by omega), ih _ (aaY _ _), apS h n _ _ hn]
def kV (l : List Int) : Nat := fnv 2166136261 l
theorem aaQ (l : List Int) : kV l < 4294967296 := avE (by decide)
def jH (s : Nat) : List Int := [((s / 16777216 : Nat) : Int), ((s / 65536 % 256 : Nat) : Int), ((s / 256 % 256 : Nat) : Int), ((s % 256 : Nat) : Int)]
def iQ (l : List Int) : List Int := cK (l.length : Int) ++ (jH (kV l) ++ l)
def agc (l : List Int) : List Int := if l.length > 65536 then [] else iQ l
theorem ayj (s : Nat) : shr .i64 (s : Int) 24 = ((s / 16777216 : Nat) : Int) := by
 unfold shr
 rw [show (2 : Int) ^ (min (24 : Int).toNat IntKind.i64.bits) = 16777216 by decide, Int.fdiv_eq_ediv_of_nonneg _ (by omega)]
 omega
theorem ayn (s : Nat) : shr .i64 (s : Int) 16 = ((s / 65536 : Nat) : Int) := by
 unfold shr
 rw [show (2 : Int) ^ (min (16 : Int).toNat IntKind.i64.bits) = 65536 by decide, Int.fdiv_eq_ediv_of_nonneg _ (by omega)]
 omega
theorem aAP (s : Nat) : shr .i64 (s : Int) 8 = ((s / 256 : Nat) : Int) := by
 unfold shr
 rw [show (2 : Int) ^ (min (8 : Int).toNat IntKind.i64.bits) = 256 by decide, Int.fdiv_eq_ediv_of_nonneg _ (by omega)]
 omega
theorem ap4 (s : Nat) (h : s < 4294967296) : bY .and .i64 (s : Int) 255 = ((s % 256 : Nat) : Int) := by
 unfold bY
 simp only
 rw [IntKind.wrap_i64, BitVec.toNat_and, BitVec.toNat_ofInt, BitVec.toNat_ofInt]
 rw [show ((255 : Int) % (2 ^ IntKind.i64.bits : Nat)).toNat = 2 ^ 8 - 1 by decide, Nat.and_two_pow_sub_one_eq_mod]
 show ((((((s : Int) % (2 ^ 64 : Nat)).toNat % 2 ^ 8 : Nat) : Int) + _) % _) - _ = _
 omega
end Md
end PX
set_option linter.unusedVariables false
set_option linter.unusedSimpArgs false
namespace PX
open Go
namespace Md
theorem aAS (s : Nat) (h : s < 4294967296) : [(IntKind.wrap .u8 (shr .i64 (s : Int) 24)), (IntKind.wrap .u8 (shr .i64 (s : Int) 16)), (IntKind.wrap .u8 (shr .i64 (s : Int) 8)), (IntKind.wrap .u8 (s : Int))] = jH s := by
 rw [ayj, ayn, aAP, wu8, wu8, wu8, wu8]
 unfold jH
 rw [show ((s / 16777216 : Nat) : Int) % 256 = ((s / 16777216 : Nat) : Int) by omega, show ((s / 65536 : Nat) : Int) % 256 = ((s / 65536 % 256 : Nat) : Int) by omega, show ((s / 256 : Nat) : Int) % 256 = ((s / 256 % 256 : Nat) : Int) by omega, show (s : Int) % 256 = ((s % 256 : Nat) : Int) by omega]
theorem aAa (s : Nat) (h : s < 4294967296) : [(IntKind.wrap .u8 (shr .i64 (s : Int) 24)), (IntKind.wrap .u8 (bY .and .i64 (shr .i64 (s : Int) 16) 255)), (IntKind.wrap .u8 (bY .and .i64 (shr .i64 (s : Int) 8) 255)), (IntKind.wrap .u8 (bY .and .i64 (s : Int) 255))] = jH s := by
 rw [ayj, ayn, aAP, ap4 _ (by omega), ap4 _ (by omega), ap4 _ h, wu8, wu8, wu8, wu8]
 unfold jH
 rw [show ((s / 16777216 : Nat) : Int) % 256 = ((s / 16777216 : Nat) : Int) by omega, show ((s / 65536 % 256 : Nat) : Int) % 256 = ((s / 65536 % 256 : Nat) : Int) by omega, show ((s / 256 % 256 : Nat) : Int) % 256 = ((s / 256 % 256 : Nat) : Int) by omega, show ((s % 256 : Nat) : Int) % 256 = ((s % 256 : Nat) : Int) by omega]
theorem fP (s : Nat) : (jH s).length = 4 := rfl
theorem ay9 {l : List Int} (hb : byt l) (hl : l.length ≤ 1000000000) : abG l = some (agc l) := by
 unfold abG agc iQ
 by_cases c : l.length > 65536
 ·rw [aL (by simp; omega), if_pos c]
 ·have e := bM (l.length : Int)
  rw [aQ (by simp; omega), if_neg c, auJ hb hl, aU, xP (uW (by omega)) (by simp), aU, List.nil_append]
  have es := aAS (fnv 2166136261 l) (aaQ l)
  rw [es]
  have el := fP (fnv 2166136261 l)
  rw [aL (by rw [decide_eq_true_eq]; omega), aL (by rw [decide_eq_true_eq, List.length_append]; omega), List.append_assoc]
  rfl
theorem ap0 {l : List Int} (hb : byt l) (hl : l.length ≤ 1000000000) : pE l = some (agc l) := by
 unfold pE agc iQ
 by_cases c : l.length > 65536
 ·rw [aL (by simp; omega), if_pos c]
 ·have e := bM (l.length : Int)
  rw [aQ (by simp; omega), if_neg c, ayM hb hl, aU, jT (uW (by omega)) (by simp), aU, List.nil_append]
  have es := aAa (fnv 2166136261 l) (aaQ l)
  rw [es]
  have el := fP (fnv 2166136261 l)
  rw [aL (by rw [decide_eq_true_eq]; omega), aL (by rw [decide_eq_true_eq, List.length_append]; omega), List.append_assoc]
  rfl
def ah5 (n : Nat) : Rd (List Int) := fun q => if q.length < 4 + n then .er 3 (by decide) else if jH (kV ((q.drop 4).take n)) = q.take 4 then .ok ((q.drop 4).take n) (q.drop (4 + n)) else .er 4 (by decide)
def vK : Rd (List Int) := bS (jX 65536) fun n => ah5 n.toNat
theorem ace {α : Type} (x0 : List α) (a n : Nat) : cH x0 (some (a : Int)) (some ((a + n : Nat) : Int)) = (x0.drop a).take n := by
 unfold cH
 simp only [Int.toNat_natCast]
 rw [List.drop_take, Nat.add_sub_cancel_left]
end Md
end PX
set_option linter.unusedVariables false
set_option linter.unusedSimpArgs false
namespace PX
open Go
namespace Md
def j9 (x0 : List Int) : Int × Int × List Int × Int :=
 match vK x0 with
 | .er e _ => (0, 0, [], e)
 | .ok b q => if q = [] then (match gH b with
  | .er e _ => (0, 0, [], e)
  | .ok c q1 => (match gH q1 with
   | .er e _ => (0, 0, [], e)
   | .ok s q2 => (c, s, q2, 0))) else (0, 0, [], 2)
end Md
end PX
set_option linter.unusedVariables false
set_option linter.unusedSimpArgs false
namespace PX
open Go
namespace Md
def mW : List aA → List Int → List Int × Int
 | [], w => (w, 0)
 | p :: r, w => cond ((tJ p).2 != 0) ([], (tJ p).2) (mW r (w ++ (cK ((tJ p).1.length : Int) ++ (tJ p).1)))
theorem ash {p : aA} (g : p.good) : byt (tJ p).1 := by
 unfold tJ
 by_cases c : jE p = 0
 ·rw [c, aQ (by simp)]; exact akz (aaR c g)
 ·rw [aL (by simpa using c)]; intro x hx; cases hx
theorem arp {l : List aA} (hl : l.length ≤ 8) (h : ∀ x ∈ l, x.good) : vN l = some (mW l []) := by
 unfold vN
 refine sA (l := l) (F := fun fu i w => lU fu l (l.length : Int) i w) (g := fun r w => some (mW r w)) (fun i w => w.length ≤ i * 5000) (fun fu w _ => by rw [lU, aQ (by simp)]; rfl) (fun fu i w hi hw ih => ?_) (by omega) [] (by simp)
 have g := h _ (List.getElem_mem hi)
 have e1 := al6 g
 have e2 := bM ((tJ l[i]).1.length : Int)
 rw [lU, aL (iV hi), aL (inr hi), cR hi, awF _ g, aU, mW, dD]
 congr 1
 rw [xP (uW (by omega)) (by omega), aU, aL (by simp only [decide_eq_true_eq, List.length_append]; omega), bZ (by omega), List.append_assoc, ih _ (by simp only [List.length_append]; omega)]
theorem arB {l : List aA} (hl : l.length ≤ 8) (h : ∀ x ∈ l, x.good) : mY l = some (mW l []) := by
 unfold mY
 refine sA (l := l) (F := fun fu i w => gT fu l i w) (g := fun r w => some (mW r w)) (fun i w => w.length ≤ i * 5000) (fun fu w _ => by rw [gT, aQ (by simp)]; rfl) (fun fu i w hi hw ih => ?_) (by omega) [] (by simp)
 have g := h _ (List.getElem_mem hi)
 have e1 := al6 g
 have e2 := bM ((tJ l[i]).1.length : Int)
 have e3 := agk (tJ l[i]).1
 rw [gT, aL (iV hi), aL (inr hi), cR hi, axE _ g, aU, mW, dD]
 congr 1
 rw [kA _ (by omega) (by omega), aU, bZ (by omega), ih _ (by have := dM (bytesOf (tJ l[i]).1); simp only [List.length_append]; omega)]
 unfold fW
 rw [e3, qW (ash g)]
end Md
end PX
set_option linter.unusedVariables false
set_option linter.unusedSimpArgs false
namespace PX
open Go
namespace Md
theorem oR {α : Type} {c : Bool} {a b b' : α} (h : c = false → b = b') : cond c a b = cond c a b' := by
 cases c
 ·exact h rfl
 ·rfl
theorem adY {b : Bool} {z : Option Bool} (h : Option.map (fun _ => ()) z = some ()) : Option.map (fun _ => ()) (cond b (some false) z) = some () := by
 cases b
 ·exact h
 ·rfl
theorem kT : cU = some true := by kernel_rfl
theorem asa (l : List aA) : ∃ b, oH l = some b ∧ (b = true → l.length ≤ 6) := by
 unfold oH
 by_cases c : (l.length : Int) > 6
 ·rw [aL (by simpa using c)]
  exact ⟨false, rfl, fun h => by cases h⟩
 ·rw [aQ (by simpa using c)]
  have a9 : Option.map (fun _ => ()) (gJ fuel l 0) = some () :=
   aaU (n := l.length) (F := fun fu i (_ : Unit) => Option.map (fun _ => ()) (gJ fu l i)) (G := fun _ _ => some ()) (fun _ _ => True)
    (fun fu s _ => by rw [gJ, aQ (pT (by omega))]; rfl)
    (fun fu i s hi _ ih => by
     have ih := ih () trivial
     rw [gJ, aL (iV hi), aL (inr hi), bZ (by omega)]
     exact adY (adY (adY (adY (adY (adY (adY (adY (adY ih))))))))) (by omega) () trivial
  cases hh : gJ fuel l 0 with
  | none => rw [hh] at a9; cases a9
  | some b => exact ⟨b, rfl, fun _ => by omega⟩
theorem adR : ∀ {l : List aA} {w : List Int}, (∀ x ∈ l, x.good) → byt w → byt (mW l w).1 ∧ (mW l w).1.length ≤ w.length + l.length * 4106
 | [], w, _, hb => ⟨hb, by simp [mW]⟩
 | p :: r, w, h, hb => by
  have g := h p (by simp)
  have e1 := al6 g
  have e2 := bM ((tJ p).1.length : Int)
  rw [mW]
  by_cases c : (tJ p).2 = 0
  ·rw [aQ (by simpa using c)]
   have := adR (l := r) (w := w ++ (cK ((tJ p).1.length : Int) ++ (tJ p).1)) (fun x hx => h x (by simp [hx])) (dC hb (dC (fY (uW (by omega))) (ash g)))
   refine ⟨this.1, ?_⟩
   have := this.2
   simp only [List.length_append, List.length_cons] at this ⊢
   omega
  ·rw [aL (by simpa using c)]
   exact ⟨(fun x hx => by cases hx), by simp⟩
def acI (t : aI) (l : List aA) : List Int := cK t.Conn ++ (cK (t.Sent + 1) ++ (mW l []).1)
def akv (t : aI) (l : List aA) : List Int × aI × Int :=
 cond t.Broken ([], t, 21) (cond (decide (t.Conn < 0)) ([], t, 1) (cond (decide (t.Conn > 1099511627776)) ([], t, 1) (cond (decide (t.Sent < 0)) ([], t, 1) (cond (decide (t.Sent ≥ 1099511627776)) ([], t, 1)
  (cond ((mW l []).2 != 0) ([], t, (mW l []).2) (agc (acI t l), aI.mk t.Conn (t.Sent + 1) t.Got t.Broken, 0))))))
theorem aqt {t : aI} {l : List aA} (h : ∀ x ∈ l, x.good) (hl : l.length ≤ 8) (c0 : 0 ≤ t.Conn) (c1 : t.Conn ≤ 1099511627776) (s0 : 0 ≤ t.Sent) (s1 : t.Sent < 1099511627776) : byt (acI t l) ∧ (acI t l).length ≤ 40000 := by
 obtain ⟨h1, h2⟩ := adR (w := []) h (fun x hx => by cases hx)
 have e1 := bM t.Conn
 have e2 := bM (t.Sent + 1)
 refine ⟨dC (fY ⟨by omega, by omega⟩) (dC (fY ⟨by omega, by omega⟩) h1), ?_⟩
 simp only [acI, List.length_append, List.length_nil] at h2 ⊢
 omega
theorem aqg {t : aI} {l : List aA} (h : ∀ x ∈ l, x.good) (hl : l.length ≤ 8) : sC t l = some (akv t l) := by
 unfold sC akv
 simp only [dD]
 refine oR fun _ => oR fun c0 => oR fun c1 => oR fun s0 => oR fun s1 => ?_
 have c0 := of_decide_eq_false c0
 have c1 := of_decide_eq_false c1
 have s0 := of_decide_eq_false s0
 have s1 := of_decide_eq_false s1
 obtain ⟨b1, b2⟩ := aqt h hl (show 0 ≤ t.Conn by omega) (by omega) (show 0 ≤ t.Sent by omega) (by omega)
 have ws : IntKind.wrap .i64 (t.Sent + 1) = t.Sent + 1 := by rw [IntKind.wrap_i64]; omega
 have e1 := bM t.Conn
 have e2 := bM (t.Sent + 1)
 have e3 := (adR (w := []) h (fun x hx => by cases hx)).2
 have hsb : cK t.Conn ++ cK (t.Sent + 1) ++ (mW l []).1 = acI t l := by rw [acI, List.append_assoc]
 unfold zI
 rw [arp hl h, aU, ws]
 refine oR fun _ => ?_
 rw [xP ⟨by omega, by omega⟩ (by simp), aU, List.nil_append, xP ⟨by omega, by omega⟩ (by omega), aU, aL (by simp only [decide_eq_true_eq, List.length_append]; simp at e3; omega), hsb, aQ (by simp; omega), ay9 b1 (by omega), aU]
theorem azC {t : aI} {l : List aA} (h : ∀ x ∈ l, x.good) (hl : l.length ≤ 8) : sP t l = some (akv t l) := by
 unfold sP akv
 simp only [dD]
 refine oR fun _ => oR fun c0 => oR fun c1 => oR fun s0 => oR fun s1 => ?_
 have c0 := of_decide_eq_false c0
 have c1 := of_decide_eq_false c1
 have s0 := of_decide_eq_false s0
 have s1 := of_decide_eq_false s1
 obtain ⟨b1, b2⟩ := aqt h hl (show 0 ≤ t.Conn by omega) (by omega) (show 0 ≤ t.Sent by omega) (by omega)
 have ws : IntKind.wrap .i64 (t.Sent + 1) = t.Sent + 1 := by rw [IntKind.wrap_i64]; omega
 have e1 := bM t.Conn
 have e2 := bM (t.Sent + 1)
 have e3 := (adR (w := []) h (fun x hx => by cases hx)).2
 have hsb : cK t.Conn ++ cK (t.Sent + 1) ++ (mW l []).1 = acI t l := by rw [acI, List.append_assoc]
 unfold s9
 rw [arB hl h, aU, ws]
 refine oR fun _ => ?_
 rw [jT ⟨by omega, by omega⟩ (by simp), aU, List.nil_append, jT ⟨by omega, by omega⟩ (by omega), aU, aL (by simp only [decide_eq_true_eq, List.length_append]; simp at e3; omega), hsb, aQ (by simp; omega), ap0 b1 (by omega), aU]
def aaC (t : aI) (x0 : List Int) : List aA × aI × Int :=
 cond ((j9 x0).2.2.2 != 0) ([], t, (j9 x0).2.2.2) (cond ((tA 50000 (j9 x0).2.2.1 []).2 != 0) ([], t, (tA 50000 (j9 x0).2.2.1 []).2)
  (cond ((j9 x0).1 != t.Conn) ([], t, 8) (cond t.Broken ([], t, 21) (cond (decide ((j9 x0).2.1 ≤ t.Got)) ([], t, 26) (cond ((j9 x0).2.1 != t.Got + 1) ([], aI.mk t.Conn t.Sent t.Got true, 22)
   ((tA 50000 (j9 x0).2.2.1 []).1, aI.mk t.Conn t.Sent (t.Got + 1) t.Broken, 0))))))
theorem atu (t : aI) : ((t.Conn == t.Conn) && ((t.Sent == t.Sent) && ((t.Got == t.Got) && ((t.Broken == t.Broken) && true)))) = true := by simp
end Md
end PX
set_option linter.unusedVariables false
namespace PX
open Go
namespace Md
theorem ac2 (p0 : aI) (p1 : (List aA)) (g0 : D.okL aI.ks (aI.enc p0)) (g1 : D.okL [.sl aA.ks] ([D.sl aA.ks (List.map aA.enc p1)])) : oQ p0 p1 = some true := by
 have h : okL aA.good p1 := uA (fun _ => aA.jQ) g1.1
 obtain ⟨b, hb, hs⟩ := asa p1
 unfold oQ wJ
 rw [hb, aU]
 cases b with
 | false => rw [aL (by rfl), kT]; rfl
 | true =>
  have := hs rfl
  rw [aQ (by rfl), aqg h.2 (by omega), aU, azC h.2 (by omega), aU, aU, aL (by simp), atu, aL (by rfl), aL (by simp), kT]; rfl
end Md
end PX
