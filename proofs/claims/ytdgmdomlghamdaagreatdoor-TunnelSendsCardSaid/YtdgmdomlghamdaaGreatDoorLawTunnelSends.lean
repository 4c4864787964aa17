import Derived.Test.YtdgmdomlghamdaaGreatDoorWdF
set_option linter.unusedVariables false
set_option linter.unusedSimpArgs false
namespace PX
open Go
namespace Md
theorem awD (x : Int) : IntKind.wrap .u32 x = x % 4294967296 := by
 simp only [IntKind.wrap, IntKind.signed, IntKind.bits]; simp
theorem aDu {a b : Nat} (ha : a < 2 ^ 32) (hb : b < 2 ^ 32) : bY .xor .u32 (a : Int) (b : Int) = ((a ^^^ b : Nat) : Int) := by
 have hx := Nat.xor_lt_two_pow ha hb
 unfold bY
 simp only
 rw [awD, BitVec.toNat_xor, BitVec.toNat_ofInt, BitVec.toNat_ofInt]
 show (((((a : Int) % (2 ^ 32 : Nat)).toNat ^^^ ((b : Int) % (2 ^ 32 : Nat)).toNat) : Nat) : Int) % _ = _
 rw [show ((a : Int) % (2 ^ 32 : Nat)).toNat = a by omega, show ((b : Int) % (2 ^ 32 : Nat)).toNat = b by omega]
 omega
theorem aDi {a b : Nat} (ha : a < 2 ^ 32) (hb : b < 2 ^ 32) : bY .xor .u64 (a : Int) (b : Int) = ((a ^^^ b : Nat) : Int) := by
 have hx := Nat.xor_lt_two_pow ha hb
 unfold bY
 simp only
 rw [pR, BitVec.toNat_xor, BitVec.toNat_ofInt, BitVec.toNat_ofInt]
 show (((((a : Int) % (2 ^ 64 : Nat)).toNat ^^^ ((b : Int) % (2 ^ 64 : Nat)).toNat) : Nat) : Int) % _ = _
 rw [show ((a : Int) % (2 ^ 64 : Nat)).toNat = a by omega, show ((b : Int) % (2 ^ 64 : Nat)).toNat = b by omega]
 omega
def acn (h b : Nat) : Nat := ((h ^^^ b) * 16777619) % 4294967296
def fnv : Nat → List Int → Nat
 | h, [] => h
 | h, x :: r => fnv (acn h x.toNat) r
theorem aaY (h b : Nat) : acn h b < 4294967296 := Nat.mod_lt _ (by decide)
theorem avE : ∀ {l : List Int} {h : Nat}, h < 4294967296 → fnv h l < 4294967296
 | [], h, hh => hh
 | x :: r, h, _ => avE (l := r) (aaY _ _)
theorem apS (h n : Nat) (x : Int) (r : List Int) (e : x = (n : Int)) : fnv h (x :: r) = fnv (acn h n) r := by subst e; rfl
theorem auJ {l : List Int} (hb : byt l) (hl : l.length ≤ 1000000000) : aaT l = some ((fnv 2166136261 l : Nat) : Int) := by
 unfold aaT
 refine sA (l := l) (F := fun fu i (h : Nat) => sZ fu (h : Int) l (l.length : Int) i) (g := fun r h => some ((fnv h r : Nat) : Int)) (fun _ h => h < 4294967296)
  (fun fu h hh => ?_) (fun fu i h hi h2 ih => ?_) (by omega) 2166136261 (by decide)
 ·have e : IntKind.wrap .i64 (h : Int) = (h : Int) := by rw [IntKind.wrap_i64]; omega
  rw [sZ, aQ (by simp), e, fnv]
 ·have hx := hb _ (List.getElem_mem hi)
  obtain ⟨n, hn⟩ := Int.eq_ofNat_of_zero_le hx.1
  have e1 : IntKind.wrap .u32 (l[i]) = (n : Int) := by rw [awD, hn]; omega
  have e2 : IntKind.wrap .u32 (bY .xor .u32 (h : Int) (n : Int) * 16777619) = ((acn h n : Nat) : Int) := by
   rw [aDu h2 (by omega), awD]
   unfold acn
   omega
  rw [sZ, aL (iV hi), aL (inr hi), cR hi, e1, e2, bZ (by omega), ih _ (aaY _ _), apS h n _ _ hn]
theorem ayM {l : List Int} (hb : byt l) (hl : l.length ≤ 1000000000) : tN l = some ((fnv 2166136261 l : Nat) : Int) := by
 unfold tN
 refine sA (l := l) (F := fun fu i (h : Nat) => k9 fu l (h : Int) i) (g := fun r h => some ((fnv h r : Nat) : Int)) (fun _ h => h < 4294967296)
  (fun fu h hh => ?_) (fun fu i h hi h2 ih => ?_) (by omega) 2166136261 (by decide)
 ·have e : IntKind.wrap .i64 (h : Int) = (h : Int) := by rw [IntKind.wrap_i64]; omega
  rw [k9, aQ (by simp), e, fnv]
 ·have hx := hb _ (List.getElem_mem hi)
  obtain ⟨n, hn⟩ := Int.eq_ofNat_of_zero_le hx.1
  have e1 : IntKind.wrap .u64 (l[i]) = (n : Int) := by rw [pR, hn]; omega
  have hxl := Nat.xor_lt_two_pow (n := 32) h2 (show n < 2 ^ 32 by omega)
  have e2 : Int.tmod (IntKind.wrap .u64 (bY .xor .u64 (h : Int) (n : Int) * 16777619)) 4294967296 = ((acn h n : Nat) : Int) := by
   rw [aDi h2 (by omega), pR]
   unfold acn
   rw [Int.tmod_eq_emod_of_nonneg (by omega)]
   omega
  rw [k9, aL (iV hi), aL (inr hi), cR hi, e1, e2, bZ (by omega), ih _ (aaY _ _), apS h n _ _ hn]
def kV (l : List Int) : Nat := fnv 2166136261 l
theorem aaQ (l : List Int) : kV l < 4294967296 := avE (by decide)
def jH (s : Nat) : List Int := [((s / 16777216 : Nat) : Int), ((s / 65536 % 256 : Nat) : Int), ((s / 256 % 256 : Nat) : Int), ((s % 256 : Nat) : Int)]
def iQ (l : List Int) : List Int := cK (l.length : Int) ++ (jH (kV l) ++ l)
def agc (l : List Int) : List Int := if l.length > 65536 then [] else iQ l
theorem ayj (s : Nat) : shr .i64 (s : Int) 24 = ((s / 16777216 : Nat) : Int) := by
 unfold shr
 rw [show (2 : Int) ^ (min (24 : Int).toNat IntKind.i64.bits) = 16777216 by decide, Int.fdiv_eq_ediv_of_nonneg _ (by omega)]
 omega
theorem ayn (s : Nat) : shr .i64 (s : Int) 16 = ((s / 65536 : Nat) : Int) := by
 unfold shr
 rw [show (2 : Int) ^ (min (16 : Int).toNat IntKind.i64.bits) = 65536 by decide, Int.fdiv_eq_ediv_of_nonneg _ (by omega)]
 omega
theorem aAP (s : Nat) : shr .i64 (s : Int) 8 = ((s / 256 : Nat) : Int) := by
 unfold shr
 rw [show (2 : Int) ^ (min (8 : Int).toNat IntKind.i64.bits) = 256 by decide, Int.fdiv_eq_ediv_of_nonneg _ (by omega)]
 omega
theorem ap4 (s : Nat) (h : s < 4294967296) : bY .and .i64 (s : Int) 255 = ((s % 256 : Nat) : Int) := by
 unfold bY
 simp only
 rw [IntKind.wrap_i64, BitVec.toNat_and, BitVec.toNat_ofInt, BitVec.toNat_ofInt]
 rw [show ((255 : Int) % (2 ^ IntKind.i64.bits : Nat)).toNat = 2 ^ 8 - 1 by decide, Nat.and_two_pow_sub_one_eq_mod]
 show ((((((s : Int) % (2 ^ 64 : Nat)).toNat % 2 ^ 8 : Nat) : Int) + _) % _) - _ = _
 omega
end Md
end PX
set_option linter.unusedVariables false
set_option linter.unusedSimpArgs false
namespace PX
open Go
namespace Md
theorem aAS (s : Nat) (h : s < 4294967296) : [(IntKind.wrap .u8 (shr .i64 (s : Int) 24)), (IntKind.wrap .u8 (shr .i64 (s : Int) 16)), (IntKind.wrap .u8 (shr .i64 (s : Int) 8)), (IntKind.wrap .u8 (s : Int))] = jH s := by
 rw [ayj, ayn, aAP, wu8, wu8, wu8, wu8]
 unfold jH
 rw [show ((s / 16777216 : Nat) : Int) % 256 = ((s / 16777216 : Nat) : Int) by omega, show ((s / 65536 : Nat) : Int) % 256 = ((s / 65536 % 256 : Nat) : Int) by omega, show ((s / 256 : Nat) : Int) % 256 = ((s / 256 % 256 : Nat) : Int) by omega, show (s : Int) % 256 = ((s % 256 : Nat) : Int) by omega]
theorem aAa (s : Nat) (h : s < 4294967296) : [(IntKind.wrap .u8 (shr .i64 (s : Int) 24)), (IntKind.wrap .u8 (bY .and .i64 (shr .i64 (s : Int) 16) 255)), (IntKind.wrap .u8 (bY .and .i64 (shr .i64 (s : Int) 8) 255)), (IntKind.wrap .u8 (bY .and .i64 (s : Int) 255))] = jH s := by
 rw [ayj, ayn, aAP, ap4 _ (by omega), ap4 _ (by omega), ap4 _ h, wu8, wu8, wu8, wu8]
 unfold jH
 rw [show ((s / 16777216 : Nat) : Int) % 256 = ((s / 16777216 : Nat) : Int) by omega, show ((s / 65536 % 256 : Nat) : Int) % 256 = ((s / 65536 % 256 : Nat) : Int) by omega, show ((s / 256 % 256 : Nat) : Int) % 256 = ((s / 256 % 256 : Nat) : Int) by omega, show ((s % 256 : Nat) : Int) % 256 = ((s % 256 : Nat) : Int) by omega]
theorem fP (s : Nat) : (jH s).length = 4 := rfl
theorem ay9 {l : List Int} (hb : byt l) (hl : l.length ≤ 1000000000) : abG l = some (agc l) := by
 unfold abG agc iQ
 by_cases c : l.length > 65536
 ·rw [aL (by simp; omega), if_pos c]
 ·have e := bM (l.length : Int)
  rw [aQ (by simp; omega), if_neg c, auJ hb hl, aU, xP (uW (by omega)) (by simp), aU, List.nil_append]
  have es := aAS (fnv 2166136261 l) (aaQ l)
  rw [es]
  have el := fP (fnv 2166136261 l)
  rw [aL (by rw [decide_eq_true_eq]; omega), aL (by rw [decide_eq_true_eq, List.length_append]; omega), List.append_assoc]
  rfl
theorem ap0 {l : List Int} (hb : byt l) (hl : l.length ≤ 1000000000) : pE l = some (agc l) := by
 unfold pE agc iQ
 by_cases c : l.length > 65536
 ·rw [aL (by simp; omega), if_pos c]
 ·have e := bM (l.length : Int)
  rw [aQ (by simp; omega), if_neg c, ayM hb hl, aU, jT (uW (by omega)) (by simp), aU, List.nil_append]
  have es := aAa (fnv 2166136261 l) (aaQ l)
  rw [es]
  have el := fP (fnv 2166136261 l)
  rw [aL (by rw [decide_eq_true_eq]; omega), aL (by rw [decide_eq_true_eq, List.length_append]; omega), List.append_assoc]
  rfl
def ah5 (n : Nat) : Rd (List Int) := fun q => if q.length < 4 + n then .er 3 (by decide) else if jH (kV ((q.drop 4).take n)) = q.take 4 then .ok ((q.drop 4).take n) (q.drop (4 + n)) else .er 4 (by decide)
def vK : Rd (List Int) := bS (jX 65536) fun n => ah5 n.toNat
theorem ace {α : Type} (x0 : List α) (a n : Nat) : cH x0 (some (a : Int)) (some ((a + n : Nat) : Int)) = (x0.drop a).take n := by
 unfold cH
 simp only [Int.toNat_natCast]
 rw [List.drop_take, Nat.add_sub_cancel_left]
end Md
end PX
set_option linter.unusedVariables false
set_option linter.unusedSimpArgs false
namespace PX
open Go
namespace Md
def j9 (x0 : List Int) : Int × Int × List Int × Int :=
 match vK x0 with
 | .er e _ => (0, 0, [], e)
 | .ok b q => if q = [] then (match gH b with
  | .er e _ => (0, 0, [], e)
  | .ok c q1 => (match gH q1 with
   | .er e _ => (0, 0, [], e)
   | .ok s q2 => (c, s, q2, 0))) else (0, 0, [], 2)
end Md
end PX
set_option linter.unusedVariables false
set_option linter.unusedSimpArgs false
namespace PX
open Go
namespace Md
end Md
end PX
set_option linter.unusedVariables false
set_option linter.unusedSimpArgs false
namespace PX
open Go
namespace Md
theorem oR {α : Type} {c : Bool} {a b b' : α} (h : c = false → b = b') : cond c a b = cond c a b' := by
 cases c
 ·exact h rfl
 ·rfl
theorem adY {b : Bool} {z : Option Bool} (h : Option.map (fun _ => ()) z = some ()) : Option.map (fun _ => ()) (cond b (some false) z) = some () := by
 cases b
 ·exact h
 ·rfl
theorem kT : cU = some true := by kernel_rfl
theorem asa (l : List aA) : ∃ b, oH l = some b ∧ (b = true → l.length ≤ 6) := by
 unfold oH
 by_cases c : (l.length : Int) > 6
 ·rw [aL (by simpa using c)]
  exact ⟨false, rfl, fun h => by cases h⟩
 ·rw [aQ (by simpa using c)]
  have a9 : Option.map (fun _ => ()) (gJ fuel l 0) = some () :=
   aaU (n := l.length) (F := fun fu i (_ : Unit) => Option.map (fun _ => ()) (gJ fu l i)) (G := fun _ _ => some ()) (fun _ _ => True)
    (fun fu s _ => by rw [gJ, aQ (pT (by omega))]; rfl)
    (fun fu i s hi _ ih => by
     have ih := ih () trivial
     rw [gJ, aL (iV hi), aL (inr hi), bZ (by omega)]
     exact adY (adY (adY (adY (adY (adY (adY (adY (adY ih))))))))) (by omega) () trivial
  cases hh : gJ fuel l 0 with
  | none => rw [hh] at a9; cases a9
  | some b => exact ⟨b, rfl, fun _ => by omega⟩
theorem adR : ∀ {l : List aA} {w : List Int}, (∀ x ∈ l, x.good) → byt w → byt (mW l w).1 ∧ (mW l w).1.length ≤ w.length + l.length * 4106
 | [], w, _, hb => ⟨hb, by simp [mW]⟩
 | p :: r, w, h, hb => by
  have g := h p (by simp)
  have e1 := al6 g
  have e2 := bM ((tJ p).1.length : Int)
  rw [mW]
  by_cases c : (tJ p).2 = 0
  ·rw [aQ (by simpa using c)]
   have := adR (l := r) (w := w ++ (cK ((tJ p).1.length : Int) ++ (tJ p).1)) (fun x hx => h x (by simp [hx])) (dC hb (dC (fY (uW (by omega))) (ash g)))
   refine ⟨this.1, ?_⟩
   have := this.2
   simp only [List.length_append, List.length_cons] at this ⊢
   omega
  ·rw [aL (by simpa using c)]
   exact ⟨(fun x hx => by cases hx), by simp⟩
def acI (t : aI) (l : List aA) : List Int := cK t.Conn ++ (cK (t.Sent + 1) ++ (mW l []).1)
def akv (t : aI) (l : List aA) : List Int × aI × Int :=
 cond t.Broken ([], t, 21) (cond (decide (t.Conn < 0)) ([], t, 1) (cond (decide (t.Conn > 1099511627776)) ([], t, 1) (cond (decide (t.Sent < 0)) ([], t, 1) (cond (decide (t.Sent ≥ 1099511627776)) ([], t, 1)
  (cond ((mW l []).2 != 0) ([], t, (mW l []).2) (agc (acI t l), aI.mk t.Conn (t.Sent + 1) t.Got t.Broken, 0))))))
theorem aqt {t : aI} {l : List aA} (h : ∀ x ∈ l, x.good) (hl : l.length ≤ 8) (c0 : 0 ≤ t.Conn) (c1 : t.Conn ≤ 1099511627776) (s0 : 0 ≤ t.Sent) (s1 : t.Sent < 1099511627776) : byt (acI t l) ∧ (acI t l).length ≤ 40000 := by
 obtain ⟨h1, h2⟩ := adR (w := []) h (fun x hx => by cases hx)
 have e1 := bM t.Conn
 have e2 := bM (t.Sent + 1)
 refine ⟨dC (fY ⟨by omega, by omega⟩) (dC (fY ⟨by omega, by omega⟩) h1), ?_⟩
 simp only [acI, List.length_append, List.length_nil] at h2 ⊢
 omega
theorem aqg {t : aI} {l : List aA} (h : ∀ x ∈ l, x.good) (hl : l.length ≤ 8) : sC t l = some (akv t l) := by
 unfold sC akv
 simp only [dD]
 refine oR fun _ => oR fun c0 => oR fun c1 => oR fun s0 => oR fun s1 => ?_
 have c0 := of_decide_eq_false c0
 have c1 := of_decide_eq_false c1
 have s0 := of_decide_eq_false s0
 have s1 := of_decide_eq_false s1
 obtain ⟨b1, b2⟩ := aqt h hl (show 0 ≤ t.Conn by omega) (by omega) (show 0 ≤ t.Sent by omega) (by omega)
 have ws : IntKind.wrap .i64 (t.Sent + 1) = t.Sent + 1 := by rw [IntKind.wrap_i64]; omega
 have e1 := bM t.Conn
 have e2 := bM (t.Sent + 1)
 have e3 := (adR (w := []) h (fun x hx => by cases hx)).2
 have hsb : cK t.Conn ++ cK (t.Sent + 1) ++ (mW l []).1 = acI t l := by rw [acI, List.append_assoc]
 unfold zI
 rw [arp hl h, aU, ws]
 refine oR fun _ => ?_
 rw [xP ⟨by omega, by omega⟩ (by simp), aU, List.nil_append, xP ⟨by omega, by omega⟩ (by omega), aU, aL (by simp only [decide_eq_true_eq, List.length_append]; simp at e3; omega), hsb, aQ (by simp; omega), ay9 b1 (by omega), aU]
theorem azC {t : aI} {l : List aA} (h : ∀ x ∈ l, x.good) (hl : l.length ≤ 8) : sP t l = some (akv t l) := by
 unfold sP akv
 simp only [dD]
 refine oR fun _ => oR fun c0 => oR fun c1 => oR fun s0 => oR fun s1 => ?_
 have c0 := of_decide_eq_false c0
 have c1 := of_decide_eq_false c1
 have s0 := of_decide_eq_false s0
 have s1 := of_decide_eq_false s1
 obtain ⟨b1, b2⟩ := aqt h hl (show 0 ≤ t.Conn by omega) (by omega) (show 0 ≤ t.Sent by omega) (by omega)
 have ws : IntKind.wrap .i64 (t.Sent + 1) = t.Sent + 1 := by rw [IntKind.wrap_i64]; omega
 have e1 := bM t.Conn
 have e2 := bM (t.Sent + 1)
 have e3 := (adR (w := []) h (fun x hx => by cases hx)).2
 have hsb : cK t.Conn ++ cK (t.Sent + 1) ++ (mW l []).1 = acI t l := by rw [acI, List.append_assoc]
 unfold s9
 rw [arB hl h, aU, ws]
 refine oR fun _ => ?_
 rw [jT ⟨by omega, by omega⟩ (by simp), aU, List.nil_append, jT ⟨by omega, by omega⟩ (by omega), aU, aL (by simp only [decide_eq_true_eq, List.length_append]; simp at e3; omega), hsb, aQ (by simp; omega), ap0 b1 (by omega), aU]
def aaC (t : aI) (x0 : List Int) : List aA × aI × Int :=
 cond ((j9 x0).2.2.2 != 0) ([], t, (j9 x0).2.2.2) (cond ((tA 50000 (j9 x0).2.2.1 []).2 != 0) ([], t, (tA 50000 (j9 x0).2.2.1 []).2)
  (cond ((j9 x0).1 != t.Conn) ([], t, 8) (cond t.Broken ([], t, 21) (cond (decide ((j9 x0).2.1 ≤ t.Got)) ([], t, 26) (cond ((j9 x0).2.1 != t.Got + 1) ([], aI.mk t.Conn t.Sent t.Got true, 22)
   ((tA 50000 (j9 x0).2.2.1 []).1, aI.mk t.Conn t.Sent (t.Got + 1) t.Broken, 0))))))
theorem atu (t : aI) : ((t.Conn == t.Conn) && ((t.Sent == t.Sent) && ((t.Got == t.Got) && ((t.Broken == t.Broken) && true)))) = true := by simp
end Md
end PX
set_option linter.unusedVariables false
namespace PX
open Go
namespace Md
theorem ac2 (p0 : aI) (p1 : (List aA)) (g0 : D.okL aI.ks (aI.enc p0)) (g1 : D.okL [.sl aA.ks] ([D.sl aA.ks (List.map aA.enc p1)])) : oQ p0 p1 = some true := by
 have h : okL aA.good p1 := uA (fun _ => aA.jQ) g1.1
 obtain ⟨b, hb, hs⟩ := asa p1
 unfold oQ wJ
 rw [hb, aU]
 cases b with
 | false => rw [aL (by rfl), kT]; rfl
 | true =>
  have := hs rfl
  rw [aQ (by rfl), aqg h.2 (by omega), aU, azC h.2 (by omega), aU, aU, aL (by simp), atu, aL (by rfl), aL (by simp), kT]; rfl
end Md
end PX
