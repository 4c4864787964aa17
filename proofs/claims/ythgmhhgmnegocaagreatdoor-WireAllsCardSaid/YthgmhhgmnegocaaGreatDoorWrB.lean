import Derived.Test.YthgmhhgmnegocaaGreatDoorWrA
set_option linter.unusedVariables false
set_option linter.unusedSimpArgs false
namespace PX
open Go
namespace Md
theorem asj {m : aF} (h : MsgD m) : alx m := by
 have h1 := h.t; have h2 := h.p; have h3 := h.f; have h4 := h.n
 refine ⟨by omega, by omega, by omega, by omega, fun x hx => ?_, avc h⟩
 have := h.ps x hx
 omega
theorem aqu {b : List Int} {m : aF} (h : MsgD m) (hb : b.length ≤ 900000000000) : tF b m = some (b ++ rD m) := asm b (asj h) hb
theorem ajV {b : List Int} {m : aF} (h : MsgD m) (hb : b.length ≤ 900000000000) : nF b m = some (b ++ rD m) := anB b (asj h) hb
theorem ah9 (a : Bool) : oO [a] = some (fS a) := an8 a
theorem as7 (a b : Bool) : oO [a, b] = some (fS a + 2 * fS b) := by cases a <;> cases b <;> kernel_rfl
theorem zP (a b : Bool) : kV a b = some (fS a + 2 * fS b) := by cases a <;> cases b <;> kernel_rfl
theorem aik (a b : Bool) : okI .i64 (fS a + 2 * fS b) := by cases a <;> cases b <;> exact sZ (by decide) (by decide)
theorem zX {b : List Int} {x : Int} (h : i64 x) (hb : b.length ≤ 90000000000000) : cK b x = some (b ++ cV x) := uP b (fH h) hb
theorem kY {b : List Int} {x : Int} (h : i64 x) (hb : b.length ≤ 90000000000000) : bP b x = some (b ++ cV x) := lO b (fH h) hb
theorem apE (b : List Int) {p : aA} (h : aaN p) (hk : p.Kind = 1) (hb : b.length ≤ 1000) : wX b p = some (b ++ ae2 p) := by
 obtain ⟨h1, h2, h3⟩ := h.cl hk
 have a1 := dH p.Client
 have a2 := dH p.User
 have a3 := bN (fS p.Clean + 2 * fS p.Will.Set)
 unfold wX
 rw [sL _ (by omega) (by omega), aU, sL _ (by omega) (by simp only [List.length_append]; omega), aU, as7, aU, uP _ (aik _ _) (by simp only [List.length_append]; omega), aU,
  aqd (F := fun fu i w => m9 fu (([p.Keep, p.Expiry, p.Window].length : Nat) : Int) i p w [p.Keep, p.Expiry, p.Window]) (l := [p.Keep, p.Expiry, p.Window]) (f := cV) (zQ p.Will) i64 (by intro x hx; simp only [List.mem_cons, List.not_mem_nil, or_false] at hx; rcases hx with rfl | rfl | rfl; exact h.keep; exact h.exp; exact h.win) (by simp) (fun x _ => by have := bN x; omega)
   (fun fu w hw => by
    rw [m9, aQ (by simp)]
    unfold zQ
    cases hs : p.Will.Set with
    | true =>
     have e := bN p.Will.Delay
     rw [gZ, if_pos rfl, zX h.del (by omega), aU, aqu (h3 hs) (by simp only [List.length_append]; omega), aU, List.append_assoc]
    | false => rw [jB, if_neg (by decide), List.append_nil])
   (fun fu i w hi hp hw => by have : i < 3 := hi; rw [m9, aL (jC hi), aL (inr hi), cN hi, zX hp (by omega), aU, cD (by omega)]) _ (by simp only [List.length_append]; omega)]
 simp [ae2]
theorem ald (b : List Int) {p : aA} (h : aaN p) (hk : p.Kind = 1) (hb : b.length ≤ 1000) : nZ b p = some (b ++ ae2 p) := by
 obtain ⟨h1, h2, h3⟩ := h.cl hk
 have a1 := dH p.Client
 have a2 := dH p.User
 have a3 := bN (fS p.Clean + 2 * fS p.Will.Set)
 have a4 := bN p.Keep
 have a5 := bN p.Expiry
 have a6 := bN p.Window
 unfold nZ
 rw [jP _ (by omega) (by omega), aU, jP _ (by omega) (by simp only [List.length_append]; omega), aU, zP, aU, lO _ (aik _ _) (by simp only [List.length_append]; omega), aU,
  kY h.keep (by simp only [List.length_append]; omega), aU, kY h.exp (by simp only [List.length_append]; omega), aU, kY h.win (by simp only [List.length_append]; omega), aU]
 unfold ae2 zQ
 cases hs : p.Will.Set with
 | true =>
  have e := bN p.Will.Delay
  rw [hs] at a3
  rw [gZ, if_pos rfl, kY h.del (by simp only [List.length_append]; omega), aU, ajV (h3 hs) (by simp only [List.length_append]; omega), aU]
  simp only [List.append_assoc]
 | false => rw [jB, if_neg (by decide)]; simp only [List.append_assoc, List.append_nil]
theorem wE {α ρ : Type} {l : List α} {F : Nat → Int → List Int → Option ρ} {f : α → List Int} (T : List Int → Option ρ) (P : α → Prop) (hP : ∀ x ∈ l, P x) (hl : l.length ≤ 1000) (hf : ∀ x, P x → (f x).length ≤ 100000)
  (h0 : ∀ fu w, w.length ≤ 200000000 → F (fu + 1) (l.length : Int) w = T w)
  (h1 : ∀ fu i w (hi : i < l.length), P l[i] → w.length ≤ 200000000 → F (fu + 1) (i : Int) w = F fu ((i + 1 : Nat) : Int) (w ++ f l[i])) (b : List Int) (hb : b.length ≤ 100000000) : F fuel 0 b = T (b ++ l.flatMap f) := by
 refine uV (l := l) (F := F) (g := fun r w => T (w ++ r.flatMap f)) (fun i w => w.length ≤ 100000000 + i * 100000) (fun fu w hw => by rw [h0 _ _ (by omega)]; simp) (fun fu i w hi hw ih => ?_) (by omega) b (by omega)
 have hp := hP _ (List.getElem_mem hi)
 have := hf _ hp
 rw [h1 fu i w hi hp (by omega), ih _ (by simp only [List.length_append]; omega)]
 simp [-List.getElem_cons_drop]
theorem aos {x : aH} (h : SubD x) : (xT x).length ≤ 118 := by
 have a := dH x.Filter
 have b := bN x.Level
 have c := bN (fS x.NoLocal)
 have := h.1
 simp only [xT, List.length_append]
 omega
theorem abt (a : Bool) : i64 (fS a) := oP (awy a)
theorem abJ {n : Nat} (h : n ≤ 1000000) : i64 (n : Int) := ⟨by omega, by omega⟩
theorem auq (b : List Int) {l : List aH} (hl : l.length ≤ 32) (h : ∀ x ∈ l, SubD x) (hb : b.length ≤ 1000) : o5 b l = some (b ++ m7 xT l) := by
 have e := bN (l.length : Int)
 unfold o5
 rw [zX (abJ (by omega)) (by omega), aU, wE (F := fun fu i w => iT fu l (l.length : Int) i w) (f := xT) some SubD h (by omega) (fun x h => by have := aos h; omega) (fun fu w _ => by rw [iT, aQ (by simp)])
  (fun fu i w hi hp hw => by
   have a1 := dH l[i].Filter
   have a2 := bN l[i].Level
   have := hp.1
   rw [iT, aL (jC hi), aL (inr hi), cN hi, sL _ (by omega) (by omega), aU, zX hp.2 (by simp only [List.length_append]; omega), aU, ah9, aU, zX (abt _) (by simp only [List.length_append]; omega), aU, cD (by omega)]
   simp [xT]) _ (by simp only [List.length_append]; omega)]
 simp [m7]
theorem auM (b : List Int) {p : aA} (hl : p.Subs.length ≤ 32) (h : ∀ x ∈ p.Subs, SubD x) (hb : b.length ≤ 1000) : (Option.bind (bP b (List.length p.Subs : Int)) fun r1 => hY fuel 0 p r1) = some (b ++ m7 xT p.Subs) := by
 have e := bN (p.Subs.length : Int)
 rw [kY (abJ (by omega)) (by omega), aU, wE (l := p.Subs) (F := fun fu i w => hY fu i p w) (f := xT) some SubD h (by omega) (fun x h => by have := aos h; omega) (fun fu w _ => by rw [hY, aQ (by simp)])
  (fun fu i w hi hp hw => by
   have a1 := dH p.Subs[i].Filter
   have a2 := bN p.Subs[i].Level
   have := hp.1
   rw [hY, aL (jC hi)]
   simp only [aL (inr hi), cN hi]
   rw [jP _ (by omega) (by omega), aU, kY hp.2 (by simp only [List.length_append]; omega), aU, zP, aU, kY (oP (aik _ _)) (by simp only [List.length_append]; omega), aU, cD (by omega)]
   have : fS p.Subs[i].NoLocal + 2 * fS false = fS p.Subs[i].NoLocal := by show fS p.Subs[i].NoLocal + 2 * 0 = _; omega
   rw [this]
   simp [xT]) _ (by simp only [List.length_append]; omega)]
 simp [m7]
theorem amU (b : List Int) {p : aA} (hl : p.Codes.length ≤ 32) (h : ∀ x ∈ p.Codes, i64 x) (hb : b.length ≤ 1000) : (Option.bind (bP b (List.length p.Codes : Int)) fun r1 => gS fuel 0 p r1) = some (b ++ m7 cV p.Codes) := by
 have e := bN (p.Codes.length : Int)
 rw [kY (abJ (by omega)) (by omega), aU, wE (l := p.Codes) (F := fun fu i w => gS fu i p w) (f := cV) some i64 h (by omega) (fun x h => by have := bN x; omega) (fun fu w _ => by rw [gS, aQ (by simp)])
  (fun fu i w hi hp hw => by rw [gS, aL (jC hi), aL (inr hi), cN hi, kY hp (by omega), aU, cD (by omega)]) _ (by simp only [List.length_append]; omega)]
 simp [m7]
theorem amR (b : List Int) {l : List Int} (hl : l.length ≤ 32) (h : ∀ x ∈ l, i64 x) (hb : b.length ≤ 1000) : (Option.bind (cK b (List.length l : Int)) fun r17 => jY fuel l (List.length l : Int) 0 r17) = some (b ++ m7 cV l, 0) := by
 have e := bN (l.length : Int)
 rw [zX (abJ (by omega)) (by omega), aU, wE (F := fun fu i w => jY fu l (l.length : Int) i w) (f := cV) (fun w => some (w, 0)) i64 h (by omega) (fun x h => by have := bN x; omega) (fun fu w _ => by rw [jY, aQ (by simp)])
  (fun fu i w hi hp hw => by rw [jY, aL (jC hi), aL (inr hi), cN hi, zX hp (by omega), aU, cD (by omega)]) _ (by simp only [List.length_append]; omega)]
 simp [m7]
theorem add_eq {b : List Int} {x : Int} (h : i64 x) (hb : b.length ≤ 90000000000000) : tE b x = some (b ++ cV x) := by
 have := zX h hb
 unfold cK at this
 rw [ahk _ (by decide) (by decide) (by omega), aU] at this
 cases e : tE b x with
 | none => rw [e] at this; cases this
 | some r => rw [e] at this; exact this
theorem ata (b : List Int) {l : List Str} (hl : l.length ≤ 32) (h : ∀ x ∈ l, x.length ≤ 88) (hb : b.length ≤ 1000) : vZ b l = some (b ++ m7 fL l) := by
 have e := bN (l.length : Int)
 unfold vZ
 rw [ahk _ (by decide) (by decide) (by omega), aU, add_eq (abJ (by omega)) (by omega), aU, wE (F := fun fu i w => lU fu l (l.length : Int) i w) (f := fL) some (fun s => s.length ≤ 88) h (by omega) (fun x h => by have := dH x; omega) (fun fu w _ => by rw [lU, aQ (by simp)])
  (fun fu i w hi hp hw => by
   have a1 := bN (l[i].length : Int)
   have a2 := aeX l[i]
   rw [lU, aL (jC hi), aL (inr hi), cN hi, add_eq (abJ (by omega)) (by omega), aU, aL (by simp only [decide_eq_true_eq, List.length_append]; omega), cD (by omega)]
   simp [fL]) _ (by simp only [List.length_append]; omega)]
 simp [m7]
theorem atk (b : List Int) {l : List Str} (hl : l.length ≤ 32) (h : ∀ x ∈ l, x.length ≤ 88) (hb : b.length ≤ 1000) : mX b l = some (b ++ m7 fL l) := by
 have e := bN (l.length : Int)
 unfold mX
 rw [kY (abJ (by omega)) (by omega), aU, wE (F := fun fu i w => gX fu l i w) (f := fL) some (fun s => s.length ≤ 88) h (by omega) (fun x h => by have := dH x; omega) (fun fu w _ => by rw [gX, aQ (by simp)])
  (fun fu i w hi hp hw => by rw [gX, aL (jC hi), aL (inr hi), cN hi, jP _ (by omega) (by omega), aU, cD (by omega)]) _ (by simp only [List.length_append]; omega)]
 simp [m7]
def tY (p : aA) : List Int × Int := cond (jK p != 0) ([], jK p) (oC p, 0)
theorem akL {p : aA} (h : aaN p) : i64 p.Kind := by
 have := h.k
 rw [mY] at this
 exact ⟨by omega, by omega⟩
theorem ahg (p : aA) (g : p.good) : oI p = some (tY p) := by
 unfold oI tY
 rw [aeP p g, aU]
 by_cases c : jK p = 0
 ·rw [c, aQ (by simp), aQ (by simp)]
  have h := adi c g
  have a1 := bN p.Kind
  have a2 := bN p.ID
  rw [zX (akL h) (by simp), aU, List.nil_append]
  unfold oC acV
  have i1 : cK (cV p.Kind) p.ID = some (cV p.Kind ++ cV p.ID) := zX h.id (by omega)
  generalize cV p.Kind = B at *
  rcases pQ h.k with k | k | k | k | k | k | k | k | k | k | k | k | k | k <;> simp only [k, show ∀ a b : Int, (a == b) = decide (a = b) from fun a b => rfl, Int.reduceEq, decide_true, decide_false, gZ, jB]
  ·rw [apE _ h k (by omega)]; rfl
  ·rw [ah9, aU, zX (abt _) (by omega), aU, zX h.code (by have := bN (fS p.Present); simp only [List.length_append]; omega), aU]; simp
  ·rw [i1, aU, ah9, aU, zX (abt _) (by simp only [List.length_append]; omega), aU, aqu (h.ms k) (by have := bN (fS p.Dup); simp only [List.length_append]; omega), aU]; simp
  ·rw [i1, aU]; simp
  ·rw [i1, aU]; simp
  ·rw [i1, aU]; simp
  ·rw [i1, aU]; simp
  ·rw [i1, aU, auq _ (h.sb k).1 (h.sb k).2 (by simp only [List.length_append]; omega), aU]; simp
  ·rw [i1, aU, amR _ (h.cd (.inl k)).1 (h.cd (.inl k)).2 (by simp only [List.length_append]; omega)]; simp
  ·rw [i1, aU, ata _ (h.fl k).1 (h.fl k).2 (by simp only [List.length_append]; omega), aU]; simp
  ·rw [i1, aU, amR _ (h.cd (.inr k)).1 (h.cd (.inr k)).2 (by simp only [List.length_append]; omega)]; simp
  ·simp
  ·simp
  ·rw [zX h.code (by omega), aU]
 ·rw [aL (by simpa using c), aL (by simpa using c)]
theorem aof (p : aA) (g : p.good) : mC p = some (tY p) := by
 unfold mC tY
 rw [zL p g, aU]
 by_cases c : jK p = 0
 ·rw [c, aQ (by simp), aQ (by simp)]
  have h := adi c g
  have a1 := bN p.Kind
  have a2 := bN p.ID
  rw [kY (akL h) (by simp), aU, List.nil_append]
  unfold oC acV oN tM
  have i1 : bP (cV p.Kind) p.ID = some (cV p.Kind ++ cV p.ID) := kY h.id (by omega)
  have f1 : ∀ x : Bool, fS x + 2 * fS false = fS x := fun x => by show fS x + 2 * 0 = _; omega
  generalize cV p.Kind = B at *
  rcases pQ h.k with k | k | k | k | k | k | k | k | k | k | k | k | k | k <;> simp only [k, show ∀ a b : Int, (a == b) = decide (a = b) from fun a b => rfl, Int.reduceEq, Int.reduceLE, decide_true, decide_false, gZ, jB]
  ·rw [ald _ h k (by omega)]; rfl
  ·rw [zP, aU, f1, kY (abt _) (by omega), aU, kY h.code (by have := bN (fS p.Present); simp only [List.length_append]; omega), aU]; simp
  ·rw [i1, aU, zP, aU, f1, kY (abt _) (by simp only [List.length_append]; omega), aU, ajV (h.ms k) (by have := bN (fS p.Dup); simp only [List.length_append]; omega), aU]; simp
  ·rw [i1, aU]; simp
  ·rw [i1, aU]; simp
  ·rw [i1, aU]; simp
  ·rw [i1, aU]; simp
  ·rw [i1, aU, auM _ (h.sb k).1 (h.sb k).2 (by simp only [List.length_append]; omega), aU]; simp
  ·rw [i1, aU, amU _ (h.cd (.inl k)).1 (h.cd (.inl k)).2 (by simp only [List.length_append]; omega), aU]; simp
  ·rw [i1, aU, atk _ (h.fl k).1 (h.fl k).2 (by simp only [List.length_append]; omega), aU]; simp
  ·rw [i1, aU, amU _ (h.cd (.inr k)).1 (h.cd (.inr k)).2 (by simp only [List.length_append]; omega), aU]; simp
  ·simp
  ·simp
  ·rw [kY h.code (by omega), aU]
 ·rw [aL (by simpa using c), aL (by simpa using c)]
end Md
end PX
