import Derived.Test.YtdgmdomlghamdaaGreatDoorWdD
set_option linter.unusedVariables false
set_option linter.unusedSimpArgs false
namespace PX
open Go
namespace Md
theorem ahy {l q : List Int} {lim : Int} (hb : byt l) {s : List UInt8} (h : eS lim l = .ok s q) : q.length + 1 ≤ l.length := by
 obtain ⟨_, e⟩ := kH lim l s q hb h
 rw [e]
 unfold fX
 have : 0 < (cL (s.length : Int)).length := by
  unfold cL
  rw [kU]
  split <;> simp
 simp only [List.length_append]
 omega
def sE : Nat → List Int → List aA → List aA × Int
 | 0, _, w => (w, 0)
 | n + 1, [], w => (w, 0)
 | n + 1, l, w => match eS 4096 l with
  | .er e _ => ([], e)
  | .ok s q => if (sN (ofStr s)).2 = 0 then sE n q (w ++ [(sN (ofStr s)).1]) else ([], (sN (ofStr s)).2)
theorem zA {n : Nat} {l : List Int} {w : List aA} (h : l ≠ []) : sE (n + 1) l w = match eS 4096 l with
  | .er e _ => ([], e)
  | .ok s q => if (sN (ofStr s)).2 = 0 then sE n q (w ++ [(sN (ofStr s)).1]) else ([], (sN (ofStr s)).2) := by
 cases l with
 | nil => exact absurd rfl h
 | cons a r => rfl
theorem ajZ {s : List UInt8} (h : (s.length : Int) ≤ 4096) : Buf (ofStr s) := ⟨ajX s, by rw [ahP]; omega⟩
theorem aw5 {x0 : List Int} (hb : Buf x0) (hl : x0.length ≤ 50000) : ∀ (k : Nat) (fu p : Nat) (w : List aA), p ≤ x0.length → x0.length - p ≤ k → k < fu → w.length ≤ p → fH fu x0 (p : Int) w = some (sE k (x0.drop p) w) := by
 intro k
 induction k with
 | zero =>
  intro fu p w hp hk hf hw
  obtain ⟨fu, rfl⟩ : ∃ n, fu = n + 1 := ⟨fu - 1, by omega⟩
  rw [fH, aR (by simp; omega)]
  rfl
 | succ k ih =>
  intro fu p w hp hk hf hw
  obtain ⟨fu, rfl⟩ : ∃ n, fu = n + 1 := ⟨fu - 1, by omega⟩
  by_cases c : p = x0.length
  ·rw [fH, aR (by simp; omega), (aag hp).2 c]
   rfl
  ·rw [fH, aK (by simp; omega), zA (fun e => c ((aag hp).1 e))]
   have hbd : byt (x0.drop p) := fun x hx => hb.1 x (List.mem_of_mem_drop hx)
   have hm := yZ hb p hp
   unfold jB at hm
   have ht := af8 hb 4096 (by decide) p hp
   unfold vE at ht
   cases e : fT (x0.drop p) with
   | er e' he =>
    rw [e] at hm
    have et : eS 4096 (x0.drop p) = .er e' he := by
     unfold eS iO
     rw [mV (mV e)]
    rw [hm, aT, aK (uV he), et]
   | ok n q =>
    rw [e] at hm
    obtain ⟨a, ha, hq, ho⟩ := hm
    rw [ho, aT, aR (by simp)] at ht ⊢
    dsimp only at ht ⊢
    by_cases c1 : n < 0
    ·have et : eS 4096 (x0.drop p) = .er 2 (by decide) := by
      unfold eS iO
      refine mV ?_
      rw [qD e, if_pos c1]; rfl
     rw [aK (by simpa using c1), et]
    ·by_cases c2 : n > 4096
     ·have et : eS 4096 (x0.drop p) = .er 5 (by decide) := by
       unfold eS iO
       refine mV ?_
       rw [qD e, if_neg c1, if_pos c2]; rfl
      rw [aR (by simpa using c1), aK (by simpa using c2), et]
     ·rw [aR (by simpa using c1), aR (by simpa using c2)] at ht ⊢
      have w1 : IntKind.wrap .i64 ((x0.length : Int) - (a : Int)) = (x0.length : Int) - a := by rw [IntKind.wrap_i64]; omega
      rw [w1] at ht ⊢
      by_cases c3 : n > (x0.length : Int) - a
      ·rw [aK (by simpa using c3)] at ht ⊢
       unfold jB at ht
       cases et : eS 4096 (x0.drop p) with
       | er e2 h2 =>
        rw [et] at ht
        have ht : some (([] : Str), (0 : Int), (3 : Int)) = some ([], 0, e2) := ht
        injection ht with ht
        injection ht with _ ht
        injection ht with _ ht
        rw [ht]
       | ok s q =>
        rw [et] at ht
        obtain ⟨b, _, _, hh⟩ := ht
        injection hh with hh
        injection hh with _ hh
        injection hh with _ hh
        cases hh
      ·have w2 : IntKind.wrap .i64 ((a : Int) + n) = ((a + n.toNat : Nat) : Int) := by rw [IntKind.wrap_i64]; omega
       rw [aR (by simpa using c3), w2, aK (by simp; omega), aK (by simp; omega), aK (by simp; omega)] at ht ⊢
       unfold jB at ht
       cases et : eS 4096 (x0.drop p) with
       | er e2 h2 =>
        rw [et] at ht
        have ht : some (_, _, (0 : Int)) = some (([] : Str), (0 : Int), e2) := ht
        injection ht with ht
        injection ht with _ ht
        injection ht with _ ht
        exact absurd ht.symm h2
       | ok s q =>
        rw [et] at ht
        obtain ⟨b, hb1, hb2, hh⟩ := ht
        injection hh with hh
        injection hh with hs hh
        injection hh with hh _
        have ebn : a + n.toNat = b := by omega
        have hcut : byt (cF x0 (some (a : Int)) (some ((a + n.toNat : Nat) : Int))) := fun x hx => by
         unfold cF at hx
         exact hb.1 x (List.mem_of_mem_take (List.mem_of_mem_drop hx))
        have ecut : cF x0 (some (a : Int)) (some ((a + n.toNat : Nat) : Int)) = ofStr s := by rw [← hs, qC hcut]
        have hprog := ahy hbd et
        have hlen : q.length = x0.length - b := by rw [← hb2, List.length_drop]
        rw [List.length_drop] at hprog
        have hs4 : (s.length : Int) ≤ 4096 := (kH 4096 _ _ _ hbd et).1
        rw [ecut, (aiE (ajZ hs4)).1, aT]
        dsimp only
        by_cases c4 : (sN (ofStr s)).2 = 0
        ·rw [if_pos c4, aR (by simpa using c4), aK (by simp; omega), ebn, ih fu b _ (by omega) (by omega) (by omega) (by simp; omega), hb2]
        ·rw [if_neg c4, aK (by simpa using c4)]
theorem axb {x0 : List Int} (hb : Buf x0) (hl : x0.length ≤ 50000) : ∀ (k : Nat) (fu p : Nat) (w : List aA), p ≤ x0.length → x0.length - p ≤ k → k < fu → w.length ≤ p → fK fu x0 (p : Int) w = some (sE k (x0.drop p) w) := by
 intro k
 induction k with
 | zero =>
  intro fu p w hp hk hf hw
  obtain ⟨fu, rfl⟩ : ∃ n, fu = n + 1 := ⟨fu - 1, by omega⟩
  rw [fK, aR (by simp; omega)]
  rfl
 | succ k ih =>
  intro fu p w hp hk hf hw
  obtain ⟨fu, rfl⟩ : ∃ n, fu = n + 1 := ⟨fu - 1, by omega⟩
  by_cases c : p = x0.length
  ·rw [fK, aR (by simp; omega), (aag hp).2 c]
   rfl
  ·rw [fK, aK (by simp; omega), zA (fun e => c ((aag hp).1 e))]
   have hbd : byt (x0.drop p) := fun x hx => hb.1 x (List.mem_of_mem_drop hx)
   have ht := akT hb 4096 (by decide) p hp
   unfold jB at ht
   cases et : eS 4096 (x0.drop p) with
   | er e2 h2 =>
    rw [et] at ht
    rw [ht, aT, aK (uV h2)]
   | ok s q =>
    rw [et] at ht
    obtain ⟨b, hb1, hb2, hh⟩ := ht
    have hprog := ahy hbd et
    have hlen : q.length = x0.length - b := by rw [← hb2, List.length_drop]
    rw [List.length_drop] at hprog
    have hs4 : (s.length : Int) ≤ 4096 := (kH 4096 _ _ _ hbd et).1
    rw [hh, aT, aR (by simp)]
    dsimp only
    rw [(aiE (ajZ hs4)).2.1, aT]
    by_cases c4 : (sN (ofStr s)).2 = 0
    ·rw [if_pos c4, aR (by simpa using c4), aK (by simp; omega), ih fu b _ (by omega) (by omega) (by omega) (by simp; omega), hb2]
    ·rw [if_neg c4, aK (by simpa using c4)]
theorem aqh : ∀ (n : Nat) (l : List Int) (w : List aA), (sE n l w).1.length ≤ w.length + n
 | 0, l, w => by simp [sE]
 | n + 1, [], w => by simp [sE]
 | n + 1, a :: r, w => by
  rw [zA (by simp)]
  cases et : eS 4096 (a :: r) with
  | er e2 h2 => simp
  | ok s q =>
   dsimp only
   split
   ·have := aqh n q (w ++ [(sN (ofStr s)).1])
    simp at this
    omega
   ·simp
theorem att {a : List aA} (h : ∀ x ∈ a, x.good) (hl : a.length ≤ 100000) : lL a a = some true := by
 unfold lL
 rw [aR (by simp)]
 refine sY (l := a) (F := fun fu i => iI fu a a i) (g := fun _ => some true) (fun fu => by rw [iI, aR (by simp)]) (fun fu i hi ih => ?_) (by omega)
 rw [iI, aK (jD hi)]
 simp only [aK (inr hi), cQ hi]
 rw [aiQ _ _ (h _ (List.getElem_mem hi)), aT, aR (by simp), cI (by omega), ih]
theorem aqH {x0 : List Int} (hb : Buf x0) (hl : x0.length ≤ 50000) : uR x0 = some (sE 50000 x0 []) ∧ pR x0 = some (sE 50000 x0 []) := by
 have h1 := aw5 hb hl 50000 fuel 0 [] (by omega) (by omega) (by rw [iK]; omega) (by simp)
 have h2 := axb hb hl 50000 fuel 0 [] (by omega) (by omega) (by rw [iK]; omega) (by simp)
 rw [List.drop_zero] at h1 h2
 exact ⟨h1, h2⟩
end Md
end PX
set_option linter.unusedVariables false
set_option linter.unusedSimpArgs false
namespace PX
open Go
namespace Md
def Btn {α : Type} (r : Rd α) (b : List Int) (x : α) : Prop := gO r b x ∧ qH r b
def asW (p : aA) : aA :=
 cond (p.Kind == 1) (alF p.Client p.User p.Clean p.Keep p.Expiry p.Window p.Will.Set p.Will.Delay p.Will.Message) (cond (p.Kind == 2) (pk p.Kind 0 false zeroM p.Present p.Code [] [] [])
  (cond (p.Kind == 3) (pk p.Kind p.ID p.Dup p.Message false 0 [] [] []) (cond (p.Kind == 4 || (p.Kind == 5 || (p.Kind == 6 || p.Kind == 7))) (pk p.Kind p.ID false zeroM false 0 [] [] [])
  (cond (p.Kind == 8) (pk 8 p.ID false zeroM false 0 p.Subs [] []) (cond (p.Kind == 9 || p.Kind == 11) (pk p.Kind p.ID false zeroM false 0 [] [] p.Codes) (cond (p.Kind == 10) (pk 10 p.ID false zeroM false 0 [] p.Filters [])
  (cond (p.Kind == 14) (pk p.Kind 0 false zeroM false p.Code [] [] []) (pk p.Kind 0 false zeroM false 0 [] [] []))))))))
end Md
end PX
set_option linter.unusedVariables false
set_option linter.unusedSimpArgs false
namespace PX
open Go
namespace Md
theorem avj (x : Int) : IntKind.wrap .u32 x = x % 4294967296 := by
 simp only [IntKind.wrap, IntKind.signed, IntKind.bits]; simp
theorem aAa {a b : Nat} (ha : a < 2 ^ 32) (hb : b < 2 ^ 32) : cB .xor .u32 (a : Int) (b : Int) = ((a ^^^ b : Nat) : Int) := by
 have hx := Nat.xor_lt_two_pow ha hb
 unfold cB
 simp only
 rw [avj, BitVec.toNat_xor, BitVec.toNat_ofInt, BitVec.toNat_ofInt]
 show (((((a : Int) % (2 ^ 32 : Nat)).toNat ^^^ ((b : Int) % (2 ^ 32 : Nat)).toNat) : Nat) : Int) % _ = _
 rw [show ((a : Int) % (2 ^ 32 : Nat)).toNat = a by omega, show ((b : Int) % (2 ^ 32 : Nat)).toNat = b by omega]
 omega
theorem azT {a b : Nat} (ha : a < 2 ^ 32) (hb : b < 2 ^ 32) : cB .xor .u64 (a : Int) (b : Int) = ((a ^^^ b : Nat) : Int) := by
 have hx := Nat.xor_lt_two_pow ha hb
 unfold cB
 simp only
 rw [o7, BitVec.toNat_xor, BitVec.toNat_ofInt, BitVec.toNat_ofInt]
 show (((((a : Int) % (2 ^ 64 : Nat)).toNat ^^^ ((b : Int) % (2 ^ 64 : Nat)).toNat) : Nat) : Int) % _ = _
 rw [show ((a : Int) % (2 ^ 64 : Nat)).toNat = a by omega, show ((b : Int) % (2 ^ 64 : Nat)).toNat = b by omega]
 omega
def alm (h b : Nat) : Nat := ((h ^^^ b) * 16777619) % 4294967296
def fnv : Nat → List Int → Nat
 | h, [] => h
 | h, x :: r => fnv (alm h x.toNat) r
theorem anu (h b : Nat) : alm h b < 4294967296 := Nat.mod_lt _ (by decide)
theorem atQ : ∀ {l : List Int} {h : Nat}, h < 4294967296 → fnv h l < 4294967296
 | [], h, hh => hh
 | x :: r, h, _ => atQ (l := r) (anu _ _)
theorem aqB (h n : Nat) (x : Int) (r : List Int) (e : x = (n : Int)) : fnv h (x :: r) = fnv (alm h n) r := by subst e; rfl
theorem auE {l : List Int} (hb : byt l) (hl : l.length ≤ 1000000000) : aaR l = some ((fnv 2166136261 l : Nat) : Int) := by
 unfold aaR
 refine rD (l := l) (F := fun fu i (h : Nat) => rO fu (h : Int) l (l.length : Int) i) (g := fun r h => some ((fnv h r : Nat) : Int)) (fun _ h => h < 4294967296)
  (fun fu h hh => ?_) (fun fu i h hi h2 ih => ?_) (by omega) 2166136261 (by decide)
 ·have e : IntKind.wrap .i64 (h : Int) = (h : Int) := by rw [IntKind.wrap_i64]; omega
  rw [rO, aR (by simp), e, fnv]
 ·have hx := hb _ (List.getElem_mem hi)
  obtain ⟨n, hn⟩ := Int.eq_ofNat_of_zero_le hx.1
  have e1 : IntKind.wrap .u32 (l[i]) = (n : Int) := by rw [avj, hn]; omega
  have e2 : IntKind.wrap .u32 (cB .xor .u32 (h : Int) (n : Int) * 16777619) = ((alm h n : Nat) : Int) := by
   rw [aAa h2 (by omega), avj]
   unfold alm
   omega
  rw [rO, aK (jD hi), aK (inr hi), cQ hi, e1, e2, cI (by omega), ih _ (anu _ _), aqB h n _ _ hn]
theorem axd {l : List Int} (hb : byt l) (hl : l.length ≤ 1000000000) : tE l = some ((fnv 2166136261 l : Nat) : Int) := by
 unfold tE
 refine rD (l := l) (F := fun fu i (h : Nat) => kL fu l (h : Int) i) (g := fun r h => some ((fnv h r : Nat) : Int)) (fun _ h => h < 4294967296)
  (fun fu h hh => ?_) (fun fu i h hi h2 ih => ?_) (by omega) 2166136261 (by decide)
 ·have e : IntKind.wrap .i64 (h : Int) = (h : Int) := by rw [IntKind.wrap_i64]; omega
  rw [kL, aR (by simp), e, fnv]
 ·have hx := hb _ (List.getElem_mem hi)
  obtain ⟨n, hn⟩ := Int.eq_ofNat_of_zero_le hx.1
  have e1 : IntKind.wrap .u64 (l[i]) = (n : Int) := by rw [o7, hn]; omega
  have hxl := Nat.xor_lt_two_pow (n := 32) h2 (show n < 2 ^ 32 by omega)
  have e2 : Int.tmod (IntKind.wrap .u64 (cB .xor .u64 (h : Int) (n : Int) * 16777619)) 4294967296 = ((alm h n : Nat) : Int) := by
   rw [azT h2 (by omega), o7]
   unfold alm
   rw [Int.tmod_eq_emod_of_nonneg (by omega)]
   omega
  rw [kL, aK (jD hi), aK (inr hi), cQ hi, e1, e2, cI (by omega), ih _ (anu _ _), aqB h n _ _ hn]
def ac0 (l : List Int) : Nat := fnv 2166136261 l
theorem ahp (l : List Int) : ac0 l < 4294967296 := atQ (by decide)
def vS (s : Nat) : List Int := [((s / 16777216 : Nat) : Int), ((s / 65536 % 256 : Nat) : Int), ((s / 256 % 256 : Nat) : Int), ((s % 256 : Nat) : Int)]
def ama (l : List Int) : List Int := cL (l.length : Int) ++ (vS (ac0 l) ++ l)
def ahu (l : List Int) : List Int := if l.length > 65536 then [] else ama l
theorem awE (s : Nat) : shr .i64 (s : Int) 24 = ((s / 16777216 : Nat) : Int) := by
 unfold shr
 rw [show (2 : Int) ^ (min (24 : Int).toNat IntKind.i64.bits) = 16777216 by decide, Int.fdiv_eq_ediv_of_nonneg _ (by omega)]
 omega
theorem awD (s : Nat) : shr .i64 (s : Int) 16 = ((s / 65536 : Nat) : Int) := by
 unfold shr
 rw [show (2 : Int) ^ (min (16 : Int).toNat IntKind.i64.bits) = 65536 by decide, Int.fdiv_eq_ediv_of_nonneg _ (by omega)]
 omega
theorem axC (s : Nat) : shr .i64 (s : Int) 8 = ((s / 256 : Nat) : Int) := by
 unfold shr
 rw [show (2 : Int) ^ (min (8 : Int).toNat IntKind.i64.bits) = 256 by decide, Int.fdiv_eq_ediv_of_nonneg _ (by omega)]
 omega
theorem aqX (s : Nat) (h : s < 4294967296) : cB .and .i64 (s : Int) 255 = ((s % 256 : Nat) : Int) := by
 unfold cB
 simp only
 rw [IntKind.wrap_i64, BitVec.toNat_and, BitVec.toNat_ofInt, BitVec.toNat_ofInt]
 rw [show ((255 : Int) % (2 ^ IntKind.i64.bits : Nat)).toNat = 2 ^ 8 - 1 by decide, Nat.and_two_pow_sub_one_eq_mod]
 show ((((((s : Int) % (2 ^ 64 : Nat)).toNat % 2 ^ 8 : Nat) : Int) + _) % _) - _ = _
 omega
end Md
end PX
set_option linter.unusedVariables false
set_option linter.unusedSimpArgs false
namespace PX
open Go
namespace Md
theorem ayl (s : Nat) (h : s < 4294967296) : [(IntKind.wrap .u8 (shr .i64 (s : Int) 24)), (IntKind.wrap .u8 (cB .and .i64 (shr .i64 (s : Int) 16) 255)), (IntKind.wrap .u8 (cB .and .i64 (shr .i64 (s : Int) 8) 255)), (IntKind.wrap .u8 (cB .and .i64 (s : Int) 255))] = vS s := by
 rw [awE, awD, axC, aqX _ (by omega), aqX _ (by omega), aqX _ h, wu8, wu8, wu8, wu8]
 unfold vS
 rw [show ((s / 16777216 : Nat) : Int) % 256 = ((s / 16777216 : Nat) : Int) by omega, show ((s / 65536 % 256 : Nat) : Int) % 256 = ((s / 65536 % 256 : Nat) : Int) by omega, show ((s / 256 % 256 : Nat) : Int) % 256 = ((s / 256 % 256 : Nat) : Int) by omega, show ((s % 256 : Nat) : Int) % 256 = ((s % 256 : Nat) : Int) by omega]
theorem alR (s : Nat) : (vS s).length = 4 := rfl
theorem axr (s : Nat) (h : s < 4294967296) : byt (vS s) := fun x hx => by
 unfold vS at hx
 simp only [List.mem_cons, List.not_mem_nil, or_false] at hx
 rcases hx with rfl | rfl | rfl | rfl <;> omega
theorem aqC {l : List Int} (hb : byt l) (hl : l.length ≤ 1000000000) : oK l = some (ahu l) := by
 unfold oK ahu ama
 by_cases c : l.length > 65536
 ·rw [aK (by simp; omega), if_pos c]
 ·have e := bE (l.length : Int)
  rw [aR (by simp; omega), if_neg c, axd hb hl, aT, jJ (yT (by omega)) (by simp), aT, List.nil_append]
  have es := ayl (fnv 2166136261 l) (ahp l)
  rw [es]
  have el := alR (fnv 2166136261 l)
  rw [aK (by rw [decide_eq_true_eq]; omega), aK (by rw [decide_eq_true_eq, List.length_append]; omega), List.append_assoc]
  rfl
def apv (n : Nat) : Rd (List Int) := fun q => if q.length < 4 + n then .er 3 (by decide) else if vS (ac0 ((q.drop 4).take n)) = q.take 4 then .ok ((q.drop 4).take n) (q.drop (4 + n)) else .er 4 (by decide)
def aa0 : Rd (List Int) := bO (iO 65536) fun n => apv n.toNat
theorem av9 {a b : Nat} (ha : a < 2 ^ 32) (hb : b < 2 ^ 32) : cB .or .i64 (a : Int) (b : Int) = ((a ||| b : Nat) : Int) := by
 have hx := Nat.or_lt_two_pow ha hb
 unfold cB
 simp only
 rw [IntKind.wrap_i64, BitVec.toNat_or, BitVec.toNat_ofInt, BitVec.toNat_ofInt]
 rw [show ((a : Int) % (2 ^ IntKind.i64.bits : Nat)).toNat = a by show ((a : Int) % (2 ^ 64 : Nat)).toNat = a; omega, show ((b : Int) % (2 ^ IntKind.i64.bits : Nat)).toNat = b by show ((b : Int) % (2 ^ 64 : Nat)).toNat = b; omega]
 omega
theorem ap4 {b k : Nat} (hb : b < 256) (hk : k ≤ 24) : shl .i64 (b : Int) (k : Int) = ((2 ^ k * b : Nat) : Int) := by
 unfold shl
 have e : min (k : Int).toNat IntKind.i64.bits = k := by show min k 64 = k; omega
 have h1 : 2 ^ k ≤ 2 ^ 24 := Nat.pow_le_pow_right (by decide) hk
 have h2 : 2 ^ k * b ≤ 2 ^ 24 * 256 := Nat.mul_le_mul h1 (by omega)
 rw [e, IntKind.wrap_i64]
 have e2 : (b : Int) * 2 ^ k = ((2 ^ k * b : Nat) : Int) := by rw [Int.natCast_mul, Int.mul_comm]; rfl
 rw [e2]
 omega
theorem as6 {a b c d : Nat} (ha : a < 256) (hb : b < 256) (hc : c < 256) (hd : d < 256) :
  cB .or .i64 (cB .or .i64 (cB .or .i64 (shl .i64 (a : Int) 24) (shl .i64 (b : Int) 16)) (shl .i64 (c : Int) 8)) (d : Int) = ((a * 16777216 + b * 65536 + c * 256 + d : Nat) : Int) := by
 have e1 := ap4 (k := 24) ha (by omega)
 have e2 := ap4 (k := 16) hb (by omega)
 have e3 := ap4 (k := 8) hc (by omega)
 rw [show ((24 : Nat) : Int) = 24 from rfl] at e1
 rw [show ((16 : Nat) : Int) = 16 from rfl] at e2
 rw [show ((8 : Nat) : Int) = 8 from rfl] at e3
 rw [e1, e2, e3, av9 (by omega) (by omega)]
 have o1 : 2 ^ 24 * a ||| 2 ^ 16 * b = 2 ^ 16 * (256 * a + b) := by
  rw [← Nat.two_pow_add_eq_or_of_lt (by omega)]; omega
 rw [o1, av9 (by omega) (by omega)]
 have o2 : 2 ^ 16 * (256 * a + b) ||| 2 ^ 8 * c = 2 ^ 8 * (65536 * a + 256 * b + c) := by
  rw [← Nat.two_pow_add_eq_or_of_lt (by omega)]; omega
 rw [o2, av9 (by omega) (by omega)]
 have o3 : 2 ^ 8 * (65536 * a + 256 * b + c) ||| d = a * 16777216 + b * 65536 + c * 256 + d := by
  rw [← Nat.two_pow_add_eq_or_of_lt (by omega)]; omega
 rw [o3]
theorem axx {a b c d : Nat} (ha : a < 256) (hb : b < 256) (hc : c < 256) (hd : d < 256) {s : Nat} (hs : s < 4294967296) : (((a * 16777216 + b * 65536 + c * 256 + d : Nat) : Int) != (s : Int)) = !decide (vS s = [(a : Int), (b : Int), (c : Int), (d : Int)]) := by
 by_cases h : a * 16777216 + b * 65536 + c * 256 + d = s
 ·have : vS s = [(a : Int), (b : Int), (c : Int), (d : Int)] := by
   unfold vS
   congr 1
   ·omega
   ·congr 1
    ·omega
    ·congr 1
     ·omega
     ·congr 1; omega
  rw [decide_eq_true this, h]; simp
 ·have : ¬ vS s = [(a : Int), (b : Int), (c : Int), (d : Int)] := fun e => by
   unfold vS at e
   injection e with e1 e
   injection e with e2 e
   injection e with e3 e
   injection e with e4 _
   omega
  rw [decide_eq_false this]
  simp only [Bool.not_false, bne_iff_ne, ne_eq]
  omega
theorem abP {α : Type} (x0 : List α) (a n : Nat) : cF x0 (some (a : Int)) (some ((a + n : Nat) : Int)) = (x0.drop a).take n := by
 unfold cF
 simp only [Int.toNat_natCast]
 rw [List.drop_take, Nat.add_sub_cancel_left]
theorem avf {a b : List Int} (ha : byt a) (hb : byt b) : (bytesOf a == bytesOf b) = decide (a = b) := by
 by_cases h : a = b
 ·rw [h]; simp
 ·have : bytesOf a ≠ bytesOf b := fun e => h (by rw [← qC ha, e, qC hb])
  rw [decide_eq_false h]
  simpa using this
theorem fill_eq (c : List Int) {n : Nat} (h : c.length = n) : List.take (List.length (List.replicate n (default : Int))) c ++ List.drop (min (List.length c) (List.length (List.replicate n (default : Int)))) (List.replicate n (default : Int)) = c := by
 rw [List.length_replicate, h, Nat.min_self, List.drop_eq_nil_of_le (by simp), List.append_nil, ← h, List.take_length]
theorem as4 {x0 : List Int} (hb : Buf x0) (p : Nat) (hp : p ≤ x0.length) : jB x0 ([] : List Int) (aa0 (x0.drop p)) (abh x0 (p : Int)) := by
 have hl := hb.2
 have hm := yZ hb p hp
 unfold abh aa0 iO
 unfold jB at hm
 cases e : fT (x0.drop p) with
 | er e' he =>
  rw [e] at hm
  rw [hm, aT, aK (uV he), mV (mV e)]
  rfl
 | ok n q =>
  rw [e] at hm
  obtain ⟨a, ha, hq, ho⟩ := hm
  rw [ho, aT, aR (by simp)]
  dsimp only
  unfold bO
  rw [e]
  dsimp only
  by_cases c1 : n < 0
  ·rw [aK (by simpa using c1), if_pos c1]; rfl
  rw [aR (by simpa using c1), if_neg c1]
  by_cases c2 : n > 65536
  ·rw [aK (by simpa using c2), if_pos c2]; rfl
  rw [aR (by simpa using c2), if_neg c2]
  obtain ⟨m, rfl⟩ := Int.eq_ofNat_of_zero_le (show 0 ≤ n by omega)
  have w1 : IntKind.wrap .i64 ((x0.length : Int) - (a : Int)) = (x0.length : Int) - a := by rw [IntKind.wrap_i64]; omega
  have w2 : IntKind.wrap .i64 (4 + (m : Int)) = 4 + m := by rw [IntKind.wrap_i64]; omega
  have w3 : IntKind.wrap .i64 ((a : Int) + 4) = ((a + 4 : Nat) : Int) := by rw [IntKind.wrap_i64]; omega
  have w4 : IntKind.wrap .i64 (((a + 4 : Nat) : Int) + (m : Int)) = ((a + 4 + m : Nat) : Int) := by rw [IntKind.wrap_i64]; omega
  have hql : q.length = x0.length - a := by rw [← hq, List.length_drop]
  dsimp only [eP]
  rw [Int.toNat_natCast, w1, w2, w3, w4]
  unfold apv
  by_cases c3 : q.length < 4 + m
  ·rw [aK (by simp; omega), if_pos c3]; rfl
  rw [aR (by simp; omega), if_neg c3, aK (by simp; omega), aK (by simp; omega), aK (by simp; omega), aK (by simp; omega), aK (by simp; omega), aK (by simp; omega)]
  have ec : cF x0 (some (a : Int)) (some ((a + 4 : Nat) : Int)) = q.take 4 := by rw [abP, hq]
  have eb : cF x0 (some ((a + 4 : Nat) : Int)) (some ((a + 4 + m : Nat) : Int)) = (q.drop 4).take m := by rw [abP, ← List.drop_drop, hq]
  have hbl : ((q.drop 4).take m).length = m := by rw [List.length_take, List.length_drop]; omega
  have hbq : byt q := fun x hx => hb.1 x (by rw [← hq] at hx; exact List.mem_of_mem_drop hx)
  rw [ec, eb]
  rw [fill_eq _ hbl]
  obtain ⟨b0, b1, b2, b3, r, hqq⟩ : ∃ b0 b1 b2 b3 r, q = b0 :: b1 :: b2 :: b3 :: r := by
   rcases q with _ | ⟨b0, _ | ⟨b1, _ | ⟨b2, _ | ⟨b3, r⟩⟩⟩⟩
   ·simp at c3
   ·simp at c3; omega
   ·simp at c3; omega
   ·simp at c3; omega
   ·exact ⟨b0, b1, b2, b3, r, rfl⟩
  have h0 := hbq b0 (by rw [hqq]; simp)
  have h1 := hbq b1 (by rw [hqq]; simp)
  have h2 := hbq b2 (by rw [hqq]; simp)
  have h3 := hbq b3 (by rw [hqq]; simp)
  obtain ⟨n0, rfl⟩ := Int.eq_ofNat_of_zero_le h0.1
  obtain ⟨n1, rfl⟩ := Int.eq_ofNat_of_zero_le h1.1
  obtain ⟨n2, rfl⟩ := Int.eq_ofNat_of_zero_le h2.1
  obtain ⟨n3, rfl⟩ := Int.eq_ofNat_of_zero_le h3.1
  have et : q.take 4 = [(n0 : Int), (n1 : Int), (n2 : Int), (n3 : Int)] := by rw [hqq]; rfl
  have wi : ∀ k : Nat, k < 256 → IntKind.wrap .i64 (k : Int) = (k : Int) := fun k hk => by rw [IntKind.wrap_i64]; omega
  have hbb : byt ((q.drop 4).take m) := fun x hx => hbq x (List.mem_of_mem_drop (List.mem_of_mem_take hx))
  rw [et, aK (by rfl), aK (by rfl), aK (by rfl), aK (by rfl), auE hbb (by omega), aT]
  show jB _ _ _ (cond ((cB .or .i64 (cB .or .i64 (cB .or .i64 (shl .i64 (IntKind.wrap .i64 (n0 : Int)) 24) (shl .i64 (IntKind.wrap .i64 (n1 : Int)) 16)) (shl .i64 (IntKind.wrap .i64 (n2 : Int)) 8)) (IntKind.wrap .i64 (n3 : Int))) != ((ac0 ((q.drop 4).take m) : Nat) : Int)) _ _)
  rw [wi n0 (by omega), wi n1 (by omega), wi n2 (by omega), wi n3 (by omega), as6 (by omega) (by omega) (by omega) (by omega), axx (by omega) (by omega) (by omega) (by omega) (ahp _)]
  by_cases c4 : vS (ac0 ((q.drop 4).take m)) = [(n0 : Int), (n1 : Int), (n2 : Int), (n3 : Int)]
  ·rw [decide_eq_true c4, aR (by rfl), if_pos c4]
   refine ⟨a + 4 + m, by omega, ?_, rfl⟩
   rw [← hq, List.drop_drop, Nat.add_assoc]
  ·rw [decide_eq_false c4, aK (by rfl), if_neg c4]
   rfl
end Md
end PX
set_option linter.unusedVariables false
set_option linter.unusedSimpArgs false
namespace PX
open Go
namespace Md
theorem arJ {x0 : List Int} (hb : Buf x0) (p : Nat) (hp : p ≤ x0.length) : jB x0 ([] : List Int) (aa0 (x0.drop p)) (rP x0 (p : Int)) := by
 have hl := hb.2
 have hm := ad2 hb 65536 p hp
 unfold rP aa0
 unfold jB at hm
 cases e : iO 65536 (x0.drop p) with
 | er e' he =>
  rw [e] at hm
  rw [hm, aT, aK (uV he), mV e]
  rfl
 | ok n q =>
  rw [e] at hm
  obtain ⟨a, ha, hq, ho⟩ := hm
  have hbd : byt (x0.drop p) := fun x hx => hb.1 x (List.mem_of_mem_drop hx)
  obtain ⟨⟨n0, n1, _⟩, hw⟩ := abm 65536 _ _ _ hbd e
  obtain ⟨m, rfl⟩ := Int.eq_ofNat_of_zero_le n0
  rw [ho, aT, aR (by simp)]
  dsimp only
  unfold bO
  rw [e]
  dsimp only
  have w1 : IntKind.wrap .i64 ((x0.length : Int) - (a : Int)) = (x0.length : Int) - a := by rw [IntKind.wrap_i64]; omega
  have w2 : IntKind.wrap .i64 (4 + (m : Int)) = 4 + m := by rw [IntKind.wrap_i64]; omega
  have w3 : IntKind.wrap .i64 ((a : Int) + 4) = ((a + 4 : Nat) : Int) := by rw [IntKind.wrap_i64]; omega
  have w4 : IntKind.wrap .i64 (((a + 4 : Nat) : Int) + (m : Int)) = ((a + 4 + m : Nat) : Int) := by rw [IntKind.wrap_i64]; omega
  have hql : q.length = x0.length - a := by rw [← hq, List.length_drop]
  have hal : a = p + (cL (m : Int)).length := by
   have := congrArg List.length hw
   rw [List.length_drop, List.length_append] at this
   omega
  rw [Int.toNat_natCast, w1, w2, w3, w4]
  unfold apv
  by_cases c3 : q.length < 4 + m
  ·rw [aK (by simp; omega), if_pos c3]; rfl
  rw [aR (by simp; omega), if_neg c3, aK (by simp; omega), aK (by simp; omega)]
  have eb : cF x0 (some ((a + 4 : Nat) : Int)) (some ((a + 4 + m : Nat) : Int)) = (q.drop 4).take m := by rw [abP, ← List.drop_drop, hq]
  have hbl : ((q.drop 4).take m).length = m := by rw [List.length_take, List.length_drop]; omega
  have hbq : byt q := fun x hx => hb.1 x (by rw [← hq] at hx; exact List.mem_of_mem_drop hx)
  have hbb : byt ((q.drop 4).take m) := fun x hx => hbq x (List.mem_of_mem_drop (List.mem_of_mem_take hx))
  rw [eb]
  have ew : ahu ((q.drop 4).take m) = cL (m : Int) ++ (vS (ac0 ((q.drop 4).take m)) ++ (q.drop 4).take m) := by
   unfold ahu ama
   rw [if_neg (by omega), hbl]
  have ecut : cF x0 (some (p : Int)) (some ((a + 4 + m : Nat) : Int)) = cL (m : Int) ++ (q.take 4 ++ (q.drop 4).take m) := by
   have e0 : a + 4 + m = p + ((cL (m : Int)).length + (4 + m)) := by omega
   rw [e0, abP, hw, List.take_length_add_append, List.take_add]
  rw [List.nil_append, aK (by rw [decide_eq_true_eq, List.length_nil]; omega), aqC hbb (by omega), aT, aK (by simp; omega), aK (by simp; omega), ecut, ew]
  have hbw : byt (cL (m : Int) ++ (vS (ac0 ((q.drop 4).take m)) ++ (q.drop 4).take m)) := dK (iM (yT (by omega))) (dK (axr _ (ahp _)) hbb)
  have hbc : byt (cL (m : Int) ++ (q.take 4 ++ (q.drop 4).take m)) := dK (iM (yT (by omega))) (dK (fun x hx => hbq x (List.mem_of_mem_take hx)) hbb)
  rw [avf hbw hbc]
  by_cases c4 : vS (ac0 ((q.drop 4).take m)) = q.take 4
  ·rw [if_pos c4, c4, decide_eq_true rfl, aR (by rfl)]
   refine ⟨a + 4 + m, by omega, ?_, rfl⟩
   rw [← hq, List.drop_drop, Nat.add_assoc]
  ·have : ¬ (cL (m : Int) ++ (vS (ac0 ((q.drop 4).take m)) ++ (q.drop 4).take m) = cL (m : Int) ++ (q.take 4 ++ (q.drop 4).take m)) := fun h => c4 (List.append_inj_left (List.append_cancel_left h) (by rw [alR, List.length_take]; omega))
   rw [if_neg c4, decide_eq_false this, aK (by rfl)]
   rfl
def kT (x0 : List Int) : Int × Int × List Int × Int :=
 match aa0 x0 with
 | .er e _ => (0, 0, [], e)
 | .ok b q => if q = [] then (match fT b with
  | .er e _ => (0, 0, [], e)
  | .ok c q1 => (match fT q1 with
   | .er e _ => (0, 0, [], e)
   | .ok s q2 => (c, s, q2, 0))) else (0, 0, [], 2)
theorem awi (l : List Int) (a : Nat) : List.take (l.length - a) (List.drop a l) = l.drop a := by
 rw [← List.length_drop, List.take_length]
theorem al9 {x0 b q : List Int} (hb : byt x0) (h : aa0 x0 = .ok b q) : byt b ∧ b.length ≤ x0.length := by
 obtain ⟨n, m, h1, h2⟩ := dR h
 obtain ⟨_, e⟩ := abm 65536 x0 n m hb h1
 subst e
 unfold apv at h2
 split at h2
 ·cases h2
 ·split at h2
  ·injection h2 with h2 _
   subst h2
   exact ⟨fun x hx => hb x (List.mem_append_right _ (List.mem_of_mem_drop (List.mem_of_mem_take hx))), by rw [List.length_take, List.length_drop, List.length_append]; omega⟩
  ·cases h2
theorem are {x0 : List Int} (hb : Buf x0) {NX : Option (List Int × Int × Int)} {NU : List Int → Int → Option (Int × Int × Int)} (hn : jB x0 ([] : List Int) (aa0 x0) NX) (hu : ∀ y : List Int, Buf y → ∀ p : Nat, p ≤ y.length → jB y 0 (fT (y.drop p)) (NU y (p : Int))) :
  (Option.bind NX fun r0 =>
 cond (r0.2.2 != 0) (
  some (0, 0, ([] : List Int), r0.2.2)) (
 cond (decide (r0.2.1 < (List.length x0 : Int))) (
  some (0, 0, ([] : List Int), 2)) (
 Option.bind (NU r0.1 0) fun r1 =>
 cond (r1.2.2 != 0) (
  some (0, 0, ([] : List Int), r1.2.2)) (
 Option.bind (NU r0.1 r1.2.1) fun r2 =>
 cond (r2.2.2 != 0) (
  some (0, 0, ([] : List Int), r2.2.2)) (
 cond (decide (0 ≤ r2.2.1) && decide (r2.2.1 ≤ ((List.length r0.1) : Int))) (
  some ((r1.1, r2.1, (List.take ((List.length r0.1) - (Int.toNat r2.2.1)) (List.drop (Int.toNat r2.2.1) r0.1)), 0))) none))))) = some (kT x0) := by
 unfold kT
 unfold jB at hn
 cases e : aa0 x0 with
 | er e' he =>
  rw [e] at hn
  rw [hn, aT, aK (uV he)]
 | ok b q =>
  rw [e] at hn
  obtain ⟨a, ha, hq, ho⟩ := hn
  obtain ⟨b1, b2⟩ := al9 hb.1 e
  have hbb : Buf b := ⟨b1, by have := hb.2; omega⟩
  rw [ho, aT, aR (by simp)]
  dsimp only
  by_cases c : a = x0.length
  ·have hqn : q = [] := by rw [← hq]; exact (aag ha).2 c
   rw [if_pos hqn, aR (by simp; omega)]
   have h1 := hu b hbb 0 (by omega)
   rw [List.drop_zero] at h1
   unfold jB at h1
   cases e1 : fT b with
   | er e' he =>
    rw [e1] at h1
    have h1 : NU b 0 = _ := h1
    rw [h1, aT, aK (uV he)]
   | ok c1 q1 =>
    rw [e1] at h1
    obtain ⟨a1, ha1, hq1, ho1⟩ := h1
    have ho1 : NU b 0 = _ := ho1
    rw [ho1, aT, aR (by simp)]
    dsimp only
    have h2 := hu b hbb a1 ha1
    rw [hq1] at h2
    unfold jB at h2
    cases e2 : fT q1 with
    | er e' he =>
     rw [e2] at h2
     have h2 : NU b (a1 : Int) = _ := h2
     rw [h2, aT, aK (uV he)]
    | ok c2 q2 =>
     rw [e2] at h2
     obtain ⟨a2, ha2, hq2, ho2⟩ := h2
     rw [ho2, aT, aR (by simp), aK (by simp; omega)]
     dsimp only
     rw [Int.toNat_natCast, awi, hq2]
  ·rw [if_neg (fun h => c ((aag ha).1 (by rw [hq]; exact h))), aK (by simp; omega)]
theorem axi {x0 : List Int} (hb : Buf x0) : zZ x0 = some (kT x0) := by
 have h := as4 hb 0 (by omega)
 rw [List.drop_zero] at h
 exact are hb h fun y hy p hp => yZ hy p hp
theorem aws {x0 : List Int} (hb : Buf x0) : vH x0 = some (kT x0) := by
 have h := arJ hb 0 (by omega)
 rw [List.drop_zero] at h
 exact are hb h fun y hy p hp => ahf hy p hp
end Md
end PX
set_option linter.unusedVariables false
set_option linter.unusedSimpArgs false
namespace PX
open Go
namespace Md
theorem au5 {x0 : List Int} (hb : byt x0) : (sN x0).1.good := by
 unfold sN
 split
 ·exact sS
 ·cases e : zE x0 with
  | ok y q =>
   dsimp only
   unfold alg
   split
   ·split
    ·exact (anZ x0 y q hb e).1
    ·exact sS
   ·exact sS
  | er e' he => exact sS
theorem au0 {x0 : List Int} (hb : Buf x0) : mR x0 = some (sN x0) := by
 unfold sN
 by_cases c : x0.length > 4096
 ·rw [if_pos c]
  unfold mR; rw [aK (by simp; omega)]
 ·rw [if_neg c]
  have h1 := ajv hb (by omega)
  cases e : zE x0 with
  | ok y q =>
   rw [e] at h1
   exact h1 (anZ x0 y q hb.1 e).1
  | er e' he =>
   rw [e] at h1
   exact h1
theorem avS {x0 : List Int} (hb : Buf x0) (hl : x0.length ≤ 50000) : ∀ (k : Nat) (fu p : Nat) (w : List aA), p ≤ x0.length → x0.length - p ≤ k → k < fu → w.length ≤ p → fH fu x0 (p : Int) w = some (sE k (x0.drop p) w) := by
 intro k
 induction k with
 | zero =>
  intro fu p w hp hk hf hw
  obtain ⟨fu, rfl⟩ : ∃ n, fu = n + 1 := ⟨fu - 1, by omega⟩
  rw [fH, aR (by simp; omega)]
  rfl
 | succ k ih =>
  intro fu p w hp hk hf hw
  obtain ⟨fu, rfl⟩ : ∃ n, fu = n + 1 := ⟨fu - 1, by omega⟩
  by_cases c : p = x0.length
  ·rw [fH, aR (by simp; omega), (aag hp).2 c]
   rfl
  ·rw [fH, aK (by simp; omega), zA (fun e => c ((aag hp).1 e))]
   have hbd : byt (x0.drop p) := fun x hx => hb.1 x (List.mem_of_mem_drop hx)
   have hm := yZ hb p hp
   unfold jB at hm
   have ht := af8 hb 4096 (by decide) p hp
   unfold vE at ht
   cases e : fT (x0.drop p) with
   | er e' he =>
    rw [e] at hm
    have et : eS 4096 (x0.drop p) = .er e' he := by
     unfold eS iO
     rw [mV (mV e)]
    rw [hm, aT, aK (uV he), et]
   | ok n q =>
    rw [e] at hm
    obtain ⟨a, ha, hq, ho⟩ := hm
    rw [ho, aT, aR (by simp)] at ht ⊢
    dsimp only at ht ⊢
    by_cases c1 : n < 0
    ·have et : eS 4096 (x0.drop p) = .er 2 (by decide) := by
      unfold eS iO
      refine mV ?_
      rw [qD e, if_pos c1]; rfl
     rw [aK (by simpa using c1), et]
    ·by_cases c2 : n > 4096
     ·have et : eS 4096 (x0.drop p) = .er 5 (by decide) := by
       unfold eS iO
       refine mV ?_
       rw [qD e, if_neg c1, if_pos c2]; rfl
      rw [aR (by simpa using c1), aK (by simpa using c2), et]
     ·rw [aR (by simpa using c1), aR (by simpa using c2)] at ht ⊢
      have w1 : IntKind.wrap .i64 ((x0.length : Int) - (a : Int)) = (x0.length : Int) - a := by rw [IntKind.wrap_i64]; omega
      rw [w1] at ht ⊢
      by_cases c3 : n > (x0.length : Int) - a
      ·rw [aK (by simpa using c3)] at ht ⊢
       unfold jB at ht
       cases et : eS 4096 (x0.drop p) with
       | er e2 h2 =>
        rw [et] at ht
        have ht : some (([] : Str), (0 : Int), (3 : Int)) = some ([], 0, e2) := ht
        injection ht with ht
        injection ht with _ ht
        injection ht with _ ht
        rw [ht]
       | ok s q =>
        rw [et] at ht
        obtain ⟨b, _, _, hh⟩ := ht
        injection hh with hh
        injection hh with _ hh
        injection hh with _ hh
        cases hh
      ·have w2 : IntKind.wrap .i64 ((a : Int) + n) = ((a + n.toNat : Nat) : Int) := by rw [IntKind.wrap_i64]; omega
       rw [aR (by simpa using c3), w2, aK (by simp; omega), aK (by simp; omega), aK (by simp; omega)] at ht ⊢
       unfold jB at ht
       cases et : eS 4096 (x0.drop p) with
       | er e2 h2 =>
        rw [et] at ht
        have ht : some (_, _, (0 : Int)) = some (([] : Str), (0 : Int), e2) := ht
        injection ht with ht
        injection ht with _ ht
        injection ht with _ ht
        exact absurd ht.symm h2
       | ok s q =>
        rw [et] at ht
        obtain ⟨b, hb1, hb2, hh⟩ := ht
        injection hh with hh
        injection hh with hs hh
        injection hh with hh _
        have ebn : a + n.toNat = b := by omega
        have hcut : byt (cF x0 (some (a : Int)) (some ((a + n.toNat : Nat) : Int))) := fun x hx => by
         unfold cF at hx
         exact hb.1 x (List.mem_of_mem_take (List.mem_of_mem_drop hx))
        have ecut : cF x0 (some (a : Int)) (some ((a + n.toNat : Nat) : Int)) = ofStr s := by rw [← hs, qC hcut]
        have hprog := ahy hbd et
        have hlen : q.length = x0.length - b := by rw [← hb2, List.length_drop]
        rw [List.length_drop] at hprog
        have hs4 : (s.length : Int) ≤ 4096 := (kH 4096 _ _ _ hbd et).1
        rw [ecut, au0 (ajZ hs4), aT]
        dsimp only
        by_cases c4 : (sN (ofStr s)).2 = 0
        ·rw [if_pos c4, aR (by simpa using c4), aK (by simp; omega), ebn, ih fu b _ (by omega) (by omega) (by omega) (by simp; omega), hb2]
        ·rw [if_neg c4, aK (by simpa using c4)]
theorem aqr {x0 : List Int} (hb : Buf x0) (hl : x0.length ≤ 50000) : uR x0 = some (sE 50000 x0 []) := by
 have h1 := avS hb hl 50000 fuel 0 [] (by omega) (by omega) (by rw [iK]; omega) (by simp)
 rw [List.drop_zero] at h1
 exact h1
theorem amy : ∀ (n : Nat) (l : List Int) (w : List aA), byt l → (∀ x ∈ w, x.good) → ∀ x ∈ (sE n l w).1, x.good
 | 0, l, w, hb, hw => hw
 | n + 1, [], w, hb, hw => hw
 | n + 1, a :: r, w, hb, hw => by
  rw [zA (by simp)]
  cases et : eS 4096 (a :: r) with
  | er e2 h2 => intro x hx; cases hx
  | ok s q =>
   obtain ⟨d, e⟩ := kH 4096 _ s q hb et
   dsimp only
   split
   ·refine amy n q _ (by rw [e] at hb; exact eV hb) fun x hx => ?_
    rcases List.mem_append.1 hx with hx | hx
    ·exact hw x hx
    ·rw [List.mem_singleton.1 hx]
     exact au5 (ajX s)
   ·intro x hx; cases hx
end Md
end PX
set_option linter.unusedVariables false
set_option linter.unusedSimpArgs false
namespace PX
open Go
namespace Md
def qG : List aA → List Int → List Int × Int
 | [], w => (w, 0)
 | p :: r, w => cond ((uU p).2 != 0) ([], (uU p).2) (qG r (w ++ (cL ((uU p).1.length : Int) ++ (uU p).1)))
end Md
end PX
set_option linter.unusedVariables false
set_option linter.unusedSimpArgs false
namespace PX
open Go
namespace Md
theorem n8 {α : Type} {c : Bool} {a b b' : α} (h : c = false → b = b') : cond c a b = cond c a b' := by
 cases c
 ·exact h rfl
 ·rfl
theorem asc : cM = some true := by kernel_rfl
def ae9 (t : aJ) (l : List aA) : List Int := cL t.Conn ++ (cL (t.Sent + 1) ++ (qG l []).1)
def apJ (t : aJ) (l : List aA) : List Int × aJ × Int :=
 cond t.Broken ([], t, 21) (cond (decide (t.Conn < 0)) ([], t, 1) (cond (decide (t.Conn > 1099511627776)) ([], t, 1) (cond (decide (t.Sent < 0)) ([], t, 1) (cond (decide (t.Sent ≥ 1099511627776)) ([], t, 1)
  (cond ((qG l []).2 != 0) ([], t, (qG l []).2) (ahu (ae9 t l), aJ.mk t.Conn (t.Sent + 1) t.Got t.Broken, 0))))))
theorem ai0 {x0 : List Int} (hb : byt x0) : byt (kT x0).2.2.1 ∧ (kT x0).2.2.1.length ≤ x0.length ∧ i64 (kT x0).2.1 := by
 have z : byt ([] : List Int) ∧ ([] : List Int).length ≤ x0.length ∧ i64 0 := ⟨(fun x hx => by cases hx), by simp, z64⟩
 unfold kT
 cases e : aa0 x0 with
 | er e' he => exact z
 | ok b q =>
  obtain ⟨b1, b2⟩ := al9 hb e
  dsimp only
  split
  ·cases e1 : fT b with
   | er e' he => exact z
   | ok c q1 =>
    obtain ⟨_, w1⟩ := nO b c q1 b1 e1
    subst w1
    dsimp only
    cases e2 : fT q1 with
    | er e' he => exact z
    | ok s q2 =>
     obtain ⟨d2, w2⟩ := nO q1 s q2 (eV b1) e2
     subst w2
     refine ⟨eV (eV b1), ?_, d2⟩
     simp only [List.length_append] at b2
     dsimp only
     omega
  ·exact z
def ahX (t : aJ) (x0 : List Int) : List aA × aJ × Int :=
 cond ((kT x0).2.2.2 != 0) ([], t, (kT x0).2.2.2) (cond ((sE 50000 (kT x0).2.2.1 []).2 != 0) ([], t, (sE 50000 (kT x0).2.2.1 []).2)
  (cond ((kT x0).1 != t.Conn) ([], t, 8) (cond t.Broken ([], t, 21) (cond (decide ((kT x0).2.1 ≤ t.Got)) ([], t, 26) (cond ((kT x0).2.1 != t.Got + 1) ([], aJ.mk t.Conn t.Sent t.Got true, 22)
   ((sE 50000 (kT x0).2.2.1 []).1, aJ.mk t.Conn t.Sent (t.Got + 1) t.Broken, 0))))))
theorem ayF {t : aJ} (g : t.good) {x0 : List Int} (hb : Buf x0) (hl : x0.length ≤ 50000) : kO t x0 = some (ahX t x0) := by
 obtain ⟨r1, r2, r3⟩ := ai0 hb.1
 unfold kO ahX yE
 rw [axi hb, aT]
 simp only [cW]
 refine n8 fun _ => ?_
 rw [aqr ⟨r1, by omega⟩ (by omega), aT]
 refine n8 fun _ => n8 fun _ => n8 fun _ => n8 fun c => ?_
 have c := of_decide_eq_false c
 ·have hg : i64 t.Got := m6 g.2.2
  have w1 : IntKind.wrap .i64 ((kT x0).2.1 - 1) = (kT x0).2.1 - 1 := by rw [IntKind.wrap_i64]; have := r3.1; have := r3.2; have := hg.1; omega
  rw [w1]
  by_cases d : (kT x0).2.1 = t.Got + 1
  ·have w2 : IntKind.wrap .i64 (t.Got + 1) = t.Got + 1 := by rw [IntKind.wrap_i64]; have := r3.1; have := r3.2; have := hg.1; omega
   rw [aR (by simp; omega), aR (by simpa using d), w2]
  ·rw [aK (by simp; omega), aK (by simpa using d)]; rfl
theorem ayf {t : aJ} (g : t.good) {x0 : List Int} (hb : Buf x0) (hl : x0.length ≤ 50000) : oF t x0 = some (ahX t x0) := by
 obtain ⟨r1, r2, r3⟩ := ai0 hb.1
 unfold oF ahX uA
 rw [aws hb, aT]
 simp only [cW]
 refine n8 fun _ => ?_
 rw [(aqH ⟨r1, by omega⟩ (by omega)).2, aT]
 refine n8 fun _ => n8 fun _ => n8 fun _ => n8 fun c => ?_
 have c := of_decide_eq_false c
 ·have hg : i64 t.Got := m6 g.2.2
  by_cases d : (kT x0).2.1 = t.Got + 1
  ·have w2 : IntKind.wrap .i64 (t.Got + 1) = t.Got + 1 := by rw [IntKind.wrap_i64]; have := r3.1; have := r3.2; have := hg.1; omega
   rw [w2, aR (by simpa using d), aR (by simpa using d), d]
  ·by_cases e : t.Got = 9223372036854775807
   ·have := r3.2; omega
   ·have w2 : IntKind.wrap .i64 (t.Got + 1) = t.Got + 1 := by rw [IntKind.wrap_i64]; have := hg.1; have := hg.2; omega
    rw [w2, aK (by simpa using d), aK (by simpa using d)]; rfl
theorem au7 {t : aJ} {x0 : List Int} (hb : byt x0) : (∀ x ∈ (ahX t x0).1, x.good) ∧ (ahX t x0).1.length ≤ 50000 := by
 obtain ⟨r1, r2, r3⟩ := ai0 hb
 have g := amy 50000 (kT x0).2.2.1 [] r1 (fun x hx => by cases hx)
 have l := aqh 50000 (kT x0).2.2.1 []
 have z : (∀ x ∈ ([] : List aA), x.good) ∧ ([] : List aA).length ≤ 50000 := ⟨(fun x hx => by cases hx), by simp⟩
 unfold ahX
 cases (kT x0).2.2.2 != 0 with
 | true => exact z
 | false =>
  cases (sE 50000 (kT x0).2.2.1 []).2 != 0 with
  | true => exact z
  | false =>
   cases (kT x0).1 != t.Conn with
   | true => exact z
   | false =>
    cases t.Broken with
    | true => exact z
    | false =>
     cases decide ((kT x0).2.1 ≤ t.Got) with
     | true => exact z
     | false =>
      cases (kT x0).2.1 != t.Got + 1 with
      | true => exact z
      | false => exact ⟨g, by simpa using l⟩
theorem azQ (t : aJ) : ((t.Conn == t.Conn) && ((t.Sent == t.Sent) && ((t.Got == t.Got) && ((t.Broken == t.Broken) && true)))) = true := by simp
end Md
end PX
set_option linter.unusedVariables false
namespace PX
open Go
namespace Md
theorem aa3 (p0 : aJ) (p1 : (List Int)) (g0 : D.okL aJ.ks (aJ.enc p0)) (g1 : D.okL [.sl [.int .u8]] ([D.sl [.int .u8] (List.map (aO .u8) p1)])) : lV p0 p1 = some true := by
 have g : p0.good := aJ.mA g0
 unfold lV
 by_cases c : (p1.length : Int) > 6000
 ·rw [aK (by simpa using c), asc]; rfl
 ·have hb := ayv g1 (by omega)
  obtain ⟨h1, h2⟩ := au7 (t := p0) hb.1
  rw [aR (by simpa using c), ayF g hb (by omega), aT, ayf g hb (by omega), aT, att h1 (by omega), aT, aK (by rfl), azQ, aK (by rfl), aK (by simp), asc]; rfl
end Md
end PX
