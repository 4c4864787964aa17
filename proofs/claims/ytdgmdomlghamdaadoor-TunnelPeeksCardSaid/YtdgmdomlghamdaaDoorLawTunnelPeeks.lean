import Derived.Test.YtdgmdomlghamdaaDoorFrA
set_option linter.unusedVariables false
set_option linter.unusedSimpArgs false
namespace PX
open Go
namespace Md
theorem aqR (s : Nat) (h : s < 4294967296) : [(IntKind.wrap .u8 (shr .i64 (s : Int) 24)), (IntKind.wrap .u8 (bP .and .i64 (shr .i64 (s : Int) 16) 255)), (IntKind.wrap .u8 (bP .and .i64 (shr .i64 (s : Int) 8) 255)), (IntKind.wrap .u8 (bP .and .i64 (s : Int) 255))] = oH s := by
 rw [ao6, aoX, ap8, ajn _ (by omega), ajn _ (by omega), ajn _ h, wu8, wu8, wu8, wu8]
 unfold oH
 rw [show ((s / 16777216 : Nat) : Int) % 256 = ((s / 16777216 : Nat) : Int) by omega, show ((s / 65536 % 256 : Nat) : Int) % 256 = ((s / 65536 % 256 : Nat) : Int) by omega, show ((s / 256 % 256 : Nat) : Int) % 256 = ((s / 256 % 256 : Nat) : Int) by omega, show ((s % 256 : Nat) : Int) % 256 = ((s % 256 : Nat) : Int) by omega]
theorem ae8 (s : Nat) : (oH s).length = 4 := rfl
theorem apF (s : Nat) (h : s < 4294967296) : byt (oH s) := fun x hx => by
 unfold oH at hx
 simp only [List.mem_cons, List.not_mem_nil, or_false] at hx
 rcases hx with rfl | rfl | rfl | rfl <;> omega
theorem aov {l : List Int} (hb : byt l) (hl : l.length ≤ 1000000000) : lW l = some (acf l) := by
 unfold lW acf ags
 by_cases c : l.length > 65536
 ·rw [aN (by simp; omega), if_pos c]
 ·have e := bL (l.length : Int)
  rw [aR (by simp; omega), if_neg c, apj hb hl, aV, aoi (vM (by omega)) (by simp), aV, List.nil_append]
  have es := aqR (fnv 2166136261 l) (ab5 l)
  rw [es]
  have el := ae8 (fnv 2166136261 l)
  rw [aN (by rw [decide_eq_true_eq]; omega), aN (by rw [decide_eq_true_eq, List.length_append]; omega), List.append_assoc]
  rfl
def aiy (n : Nat) : Rd (List Int) := fun q => if q.length < 4 + n then .er 3 (by decide) else if oH (xF ((q.drop 4).take n)) = q.take 4 then .ok ((q.drop 4).take n) (q.drop (4 + n)) else .er 4 (by decide)
def tY : Rd (List Int) := bJ (iH 65536) fun n => aiy n.toNat
theorem aoc {a b : Nat} (ha : a < 2 ^ 32) (hb : b < 2 ^ 32) : bP .or .i64 (a : Int) (b : Int) = ((a ||| b : Nat) : Int) := by
 have hx := Nat.or_lt_two_pow ha hb
 unfold bP
 simp only
 rw [IntKind.wrap_i64, BitVec.toNat_or, BitVec.toNat_ofInt, BitVec.toNat_ofInt]
 rw [show ((a : Int) % (2 ^ IntKind.i64.bits : Nat)).toNat = a by show ((a : Int) % (2 ^ 64 : Nat)).toNat = a; omega, show ((b : Int) % (2 ^ IntKind.i64.bits : Nat)).toNat = b by show ((b : Int) % (2 ^ 64 : Nat)).toNat = b; omega]
 omega
theorem ajc {b k : Nat} (hb : b < 256) (hk : k ≤ 24) : shl .i64 (b : Int) (k : Int) = ((2 ^ k * b : Nat) : Int) := by
 unfold shl
 have e : min (k : Int).toNat IntKind.i64.bits = k := by show min k 64 = k; omega
 have h1 : 2 ^ k ≤ 2 ^ 24 := Nat.pow_le_pow_right (by decide) hk
 have h2 : 2 ^ k * b ≤ 2 ^ 24 * 256 := Nat.mul_le_mul h1 (by omega)
 rw [e, IntKind.wrap_i64]
 have e2 : (b : Int) * 2 ^ k = ((2 ^ k * b : Nat) : Int) := by rw [Int.natCast_mul, Int.mul_comm]; rfl
 rw [e2]
 omega
theorem al4 {a b c d : Nat} (ha : a < 256) (hb : b < 256) (hc : c < 256) (hd : d < 256) :
  bP .or .i64 (bP .or .i64 (bP .or .i64 (shl .i64 (a : Int) 24) (shl .i64 (b : Int) 16)) (shl .i64 (c : Int) 8)) (d : Int) = ((a * 16777216 + b * 65536 + c * 256 + d : Nat) : Int) := by
 have e1 := ajc (k := 24) ha (by omega)
 have e2 := ajc (k := 16) hb (by omega)
 have e3 := ajc (k := 8) hc (by omega)
 rw [show ((24 : Nat) : Int) = 24 from rfl] at e1
 rw [show ((16 : Nat) : Int) = 16 from rfl] at e2
 rw [show ((8 : Nat) : Int) = 8 from rfl] at e3
 rw [e1, e2, e3, aoc (by omega) (by omega)]
 have o1 : 2 ^ 24 * a ||| 2 ^ 16 * b = 2 ^ 16 * (256 * a + b) := by
  rw [← Nat.two_pow_add_eq_or_of_lt (by omega)]; omega
 rw [o1, aoc (by omega) (by omega)]
 have o2 : 2 ^ 16 * (256 * a + b) ||| 2 ^ 8 * c = 2 ^ 8 * (65536 * a + 256 * b + c) := by
  rw [← Nat.two_pow_add_eq_or_of_lt (by omega)]; omega
 rw [o2, aoc (by omega) (by omega)]
 have o3 : 2 ^ 8 * (65536 * a + 256 * b + c) ||| d = a * 16777216 + b * 65536 + c * 256 + d := by
  rw [← Nat.two_pow_add_eq_or_of_lt (by omega)]; omega
 rw [o3]
theorem apE {a b c d : Nat} (ha : a < 256) (hb : b < 256) (hc : c < 256) (hd : d < 256) {s : Nat} (hs : s < 4294967296) : (((a * 16777216 + b * 65536 + c * 256 + d : Nat) : Int) != (s : Int)) = !decide (oH s = [(a : Int), (b : Int), (c : Int), (d : Int)]) := by
 by_cases h : a * 16777216 + b * 65536 + c * 256 + d = s
 ·have : oH s = [(a : Int), (b : Int), (c : Int), (d : Int)] := by
   unfold oH
   congr 1
   ·omega
   ·congr 1
    ·omega
    ·congr 1
     ·omega
     ·congr 1; omega
  rw [decide_eq_true this, h]; simp
 ·have : ¬ oH s = [(a : Int), (b : Int), (c : Int), (d : Int)] := fun e => by
   unfold oH at e
   injection e with e1 e
   injection e with e2 e
   injection e with e3 e
   injection e with e4 _
   omega
  rw [decide_eq_false this]
  simp only [Bool.not_false, bne_iff_ne, ne_eq]
  omega
theorem vE {α : Type} (x0 : List α) (a n : Nat) : cH x0 (some (a : Int)) (some ((a + n : Nat) : Int)) = (x0.drop a).take n := by
 unfold cH
 simp only [Int.toNat_natCast]
 rw [List.drop_take, Nat.add_sub_cancel_left]
theorem aol {a b : List Int} (ha : byt a) (hb : byt b) : (bytesOf a == bytesOf b) = decide (a = b) := by
 by_cases h : a = b
 ·rw [h]; simp
 ·have : bytesOf a ≠ bytesOf b := fun e => h (by rw [← sL ha, e, sL hb])
  rw [decide_eq_false h]
  simpa using this
theorem fill_eq (c : List Int) {n : Nat} (h : c.length = n) : List.take (List.length (List.replicate n (default : Int))) c ++ List.drop (min (List.length c) (List.length (List.replicate n (default : Int)))) (List.replicate n (default : Int)) = c := by
 rw [List.length_replicate, h, Nat.min_self, List.drop_eq_nil_of_le (by simp), List.append_nil, ← h, List.take_length]
theorem alD {x0 : List Int} (hb : Buf x0) (p : Nat) (hp : p ≤ x0.length) : iR x0 ([] : List Int) (tY (x0.drop p)) (tU x0 (p : Int)) := by
 have hl := hb.2
 have hm := xI hb p hp
 unfold tU tY iH
 unfold iR at hm
 cases e : eR (x0.drop p) with
 | er e' he =>
  rw [e] at hm
  rw [hm, aV, aN (afm he), uO (uO e)]
  rfl
 | ok n q =>
  rw [e] at hm
  obtain ⟨a, ha, hq, ho⟩ := hm
  rw [ho, aV, aR (by simp)]
  dsimp only
  unfold bJ
  rw [e]
  dsimp only
  by_cases c1 : n < 0
  ·rw [aN (by simpa using c1), if_pos c1]; rfl
  rw [aR (by simpa using c1), if_neg c1]
  by_cases c2 : n > 65536
  ·rw [aN (by simpa using c2), if_pos c2]; rfl
  rw [aR (by simpa using c2), if_neg c2]
  obtain ⟨m, rfl⟩ := Int.eq_ofNat_of_zero_le (show 0 ≤ n by omega)
  have w1 : IntKind.wrap .i64 ((x0.length : Int) - (a : Int)) = (x0.length : Int) - a := by rw [IntKind.wrap_i64]; omega
  have w2 : IntKind.wrap .i64 (4 + (m : Int)) = 4 + m := by rw [IntKind.wrap_i64]; omega
  have w3 : IntKind.wrap .i64 ((a : Int) + 4) = ((a + 4 : Nat) : Int) := by rw [IntKind.wrap_i64]; omega
  have w4 : IntKind.wrap .i64 (((a + 4 : Nat) : Int) + (m : Int)) = ((a + 4 + m : Nat) : Int) := by rw [IntKind.wrap_i64]; omega
  have hql : q.length = x0.length - a := by rw [← hq, List.length_drop]
  dsimp only [eJ]
  rw [Int.toNat_natCast, w1, w2, w3, w4]
  unfold aiy
  by_cases c3 : q.length < 4 + m
  ·rw [aN (by simp; omega), if_pos c3]; rfl
  rw [aR (by simp; omega), if_neg c3, aN (by simp; omega), aN (by simp; omega), aN (by simp; omega), aN (by simp; omega), aN (by simp; omega), aN (by simp; omega)]
  have ec : cH x0 (some (a : Int)) (some ((a + 4 : Nat) : Int)) = q.take 4 := by rw [vE, hq]
  have eb : cH x0 (some ((a + 4 : Nat) : Int)) (some ((a + 4 + m : Nat) : Int)) = (q.drop 4).take m := by rw [vE, ← List.drop_drop, hq]
  have hbl : ((q.drop 4).take m).length = m := by rw [List.length_take, List.length_drop]; omega
  have hbq : byt q := fun x hx => hb.1 x (by rw [← hq] at hx; exact List.mem_of_mem_drop hx)
  rw [ec, eb]
  rw [fill_eq _ hbl]
  obtain ⟨b0, b1, b2, b3, r, hqq⟩ : ∃ b0 b1 b2 b3 r, q = b0 :: b1 :: b2 :: b3 :: r := by
   rcases q with _ | ⟨b0, _ | ⟨b1, _ | ⟨b2, _ | ⟨b3, r⟩⟩⟩⟩
   ·simp at c3
   ·simp at c3; omega
   ·simp at c3; omega
   ·simp at c3; omega
   ·exact ⟨b0, b1, b2, b3, r, rfl⟩
  have h0 := hbq b0 (by rw [hqq]; simp)
  have h1 := hbq b1 (by rw [hqq]; simp)
  have h2 := hbq b2 (by rw [hqq]; simp)
  have h3 := hbq b3 (by rw [hqq]; simp)
  obtain ⟨n0, rfl⟩ := Int.eq_ofNat_of_zero_le h0.1
  obtain ⟨n1, rfl⟩ := Int.eq_ofNat_of_zero_le h1.1
  obtain ⟨n2, rfl⟩ := Int.eq_ofNat_of_zero_le h2.1
  obtain ⟨n3, rfl⟩ := Int.eq_ofNat_of_zero_le h3.1
  have et : q.take 4 = [(n0 : Int), (n1 : Int), (n2 : Int), (n3 : Int)] := by rw [hqq]; rfl
  have wi : ∀ k : Nat, k < 256 → IntKind.wrap .i64 (k : Int) = (k : Int) := fun k hk => by rw [IntKind.wrap_i64]; omega
  have hbb : byt ((q.drop 4).take m) := fun x hx => hbq x (List.mem_of_mem_drop (List.mem_of_mem_take hx))
  rw [et, aN (by rfl), aN (by rfl), aN (by rfl), aN (by rfl), amD hbb (by omega), aV]
  show iR _ _ _ (cond ((bP .or .i64 (bP .or .i64 (bP .or .i64 (shl .i64 (IntKind.wrap .i64 (n0 : Int)) 24) (shl .i64 (IntKind.wrap .i64 (n1 : Int)) 16)) (shl .i64 (IntKind.wrap .i64 (n2 : Int)) 8)) (IntKind.wrap .i64 (n3 : Int))) != ((xF ((q.drop 4).take m) : Nat) : Int)) _ _)
  rw [wi n0 (by omega), wi n1 (by omega), wi n2 (by omega), wi n3 (by omega), al4 (by omega) (by omega) (by omega) (by omega), apE (by omega) (by omega) (by omega) (by omega) (ab5 _)]
  by_cases c4 : oH (xF ((q.drop 4).take m)) = [(n0 : Int), (n1 : Int), (n2 : Int), (n3 : Int)]
  ·rw [decide_eq_true c4, aR (by rfl), if_pos c4]
   refine ⟨a + 4 + m, by omega, ?_, rfl⟩
   rw [← hq, List.drop_drop, Nat.add_assoc]
  ·rw [decide_eq_false c4, aN (by rfl), if_neg c4]
   rfl
end Md
end PX
set_option linter.unusedVariables false
set_option linter.unusedSimpArgs false
namespace PX
open Go
namespace Md
theorem ako {x0 : List Int} (hb : Buf x0) (p : Nat) (hp : p ≤ x0.length) : iR x0 ([] : List Int) (tY (x0.drop p)) (mG x0 (p : Int)) := by
 have hl := hb.2
 have hm := ai2 hb 65536 p hp
 unfold mG tY
 unfold iR at hm
 cases e : iH 65536 (x0.drop p) with
 | er e' he =>
  rw [e] at hm
  rw [hm, aV, aN (afm he), uO e]
  rfl
 | ok n q =>
  rw [e] at hm
  obtain ⟨a, ha, hq, ho⟩ := hm
  have hbd : byt (x0.drop p) := fun x hx => hb.1 x (List.mem_of_mem_drop hx)
  obtain ⟨⟨n0, n1, _⟩, hw⟩ := tP 65536 _ _ _ hbd e
  obtain ⟨m, rfl⟩ := Int.eq_ofNat_of_zero_le n0
  rw [ho, aV, aR (by simp)]
  dsimp only
  unfold bJ
  rw [e]
  dsimp only
  have w1 : IntKind.wrap .i64 ((x0.length : Int) - (a : Int)) = (x0.length : Int) - a := by rw [IntKind.wrap_i64]; omega
  have w2 : IntKind.wrap .i64 (4 + (m : Int)) = 4 + m := by rw [IntKind.wrap_i64]; omega
  have w3 : IntKind.wrap .i64 ((a : Int) + 4) = ((a + 4 : Nat) : Int) := by rw [IntKind.wrap_i64]; omega
  have w4 : IntKind.wrap .i64 (((a + 4 : Nat) : Int) + (m : Int)) = ((a + 4 + m : Nat) : Int) := by rw [IntKind.wrap_i64]; omega
  have hql : q.length = x0.length - a := by rw [← hq, List.length_drop]
  have hal : a = p + (cD (m : Int)).length := by
   have := congrArg List.length hw
   rw [List.length_drop, List.length_append] at this
   omega
  rw [Int.toNat_natCast, w1, w2, w3, w4]
  unfold aiy
  by_cases c3 : q.length < 4 + m
  ·rw [aN (by simp; omega), if_pos c3]; rfl
  rw [aR (by simp; omega), if_neg c3, aN (by simp; omega), aN (by simp; omega)]
  have eb : cH x0 (some ((a + 4 : Nat) : Int)) (some ((a + 4 + m : Nat) : Int)) = (q.drop 4).take m := by rw [vE, ← List.drop_drop, hq]
  have hbl : ((q.drop 4).take m).length = m := by rw [List.length_take, List.length_drop]; omega
  have hbq : byt q := fun x hx => hb.1 x (by rw [← hq] at hx; exact List.mem_of_mem_drop hx)
  have hbb : byt ((q.drop 4).take m) := fun x hx => hbq x (List.mem_of_mem_drop (List.mem_of_mem_take hx))
  rw [eb]
  have ew : acf ((q.drop 4).take m) = cD (m : Int) ++ (oH (xF ((q.drop 4).take m)) ++ (q.drop 4).take m) := by
   unfold acf ags
   rw [if_neg (by omega), hbl]
  have ecut : cH x0 (some (p : Int)) (some ((a + 4 + m : Nat) : Int)) = cD (m : Int) ++ (q.take 4 ++ (q.drop 4).take m) := by
   have e0 : a + 4 + m = p + ((cD (m : Int)).length + (4 + m)) := by omega
   rw [e0, vE, hw, List.take_length_add_append, List.take_add]
  rw [List.nil_append, aN (by rw [decide_eq_true_eq, List.length_nil]; omega), aov hbb (by omega), aV, aN (by simp; omega), aN (by simp; omega), ecut, ew]
  have hbw : byt (cD (m : Int) ++ (oH (xF ((q.drop 4).take m)) ++ (q.drop 4).take m)) := cM (fB (vM (by omega))) (cM (apF _ (ab5 _)) hbb)
  have hbc : byt (cD (m : Int) ++ (q.take 4 ++ (q.drop 4).take m)) := cM (fB (vM (by omega))) (cM (fun x hx => hbq x (List.mem_of_mem_take hx)) hbb)
  rw [aol hbw hbc]
  by_cases c4 : oH (xF ((q.drop 4).take m)) = q.take 4
  ·rw [if_pos c4, c4, decide_eq_true rfl, aR (by rfl)]
   refine ⟨a + 4 + m, by omega, ?_, rfl⟩
   rw [← hq, List.drop_drop, Nat.add_assoc]
  ·have : ¬ (cD (m : Int) ++ (oH (xF ((q.drop 4).take m)) ++ (q.drop 4).take m) = cD (m : Int) ++ (q.take 4 ++ (q.drop 4).take m)) := fun h => c4 (List.append_inj_left (List.append_cancel_left h) (by rw [ae8, List.length_take]; omega))
   rw [if_neg c4, decide_eq_false this, aN (by rfl)]
   rfl
def nE (x0 : List Int) : Int × Int × List Int × Int :=
 match tY x0 with
 | .er e _ => (0, 0, [], e)
 | .ok b q => if q = [] then (match eR b with
  | .er e _ => (0, 0, [], e)
  | .ok c q1 => (match eR q1 with
   | .er e _ => (0, 0, [], e)
   | .ok s q2 => (c, s, q2, 0))) else (0, 0, [], 2)
theorem anD (l : List Int) (a : Nat) : List.take (l.length - a) (List.drop a l) = l.drop a := by
 rw [← List.length_drop, List.take_length]
theorem agO {x0 b q : List Int} (hb : byt x0) (h : tY x0 = .ok b q) : byt b ∧ b.length ≤ x0.length := by
 obtain ⟨n, m, h1, h2⟩ := cQ h
 obtain ⟨_, e⟩ := tP 65536 x0 n m hb h1
 subst e
 unfold aiy at h2
 split at h2
 ·cases h2
 ·split at h2
  ·injection h2 with h2 _
   subst h2
   exact ⟨fun x hx => hb x (List.mem_append_right _ (List.mem_of_mem_drop (List.mem_of_mem_take hx))), by rw [List.length_take, List.length_drop, List.length_append]; omega⟩
  ·cases h2
theorem ajG {x0 : List Int} (hb : Buf x0) {NX : Option (List Int × Int × Int)} {NU : List Int → Int → Option (Int × Int × Int)} (hn : iR x0 ([] : List Int) (tY x0) NX) (hu : ∀ y : List Int, Buf y → ∀ p : Nat, p ≤ y.length → iR y 0 (eR (y.drop p)) (NU y (p : Int))) :
  (Option.bind NX fun r0 =>
 cond (r0.2.2 != 0) (
  some (0, 0, ([] : List Int), r0.2.2)) (
 cond (decide (r0.2.1 < (List.length x0 : Int))) (
  some (0, 0, ([] : List Int), 2)) (
 Option.bind (NU r0.1 0) fun r1 =>
 cond (r1.2.2 != 0) (
  some (0, 0, ([] : List Int), r1.2.2)) (
 Option.bind (NU r0.1 r1.2.1) fun r2 =>
 cond (r2.2.2 != 0) (
  some (0, 0, ([] : List Int), r2.2.2)) (
 cond (decide (0 ≤ r2.2.1) && decide (r2.2.1 ≤ ((List.length r0.1) : Int))) (
  some ((r1.1, r2.1, (List.take ((List.length r0.1) - (Int.toNat r2.2.1)) (List.drop (Int.toNat r2.2.1) r0.1)), 0))) none))))) = some (nE x0) := by
 unfold nE
 unfold iR at hn
 cases e : tY x0 with
 | er e' he =>
  rw [e] at hn
  rw [hn, aV, aN (afm he)]
 | ok b q =>
  rw [e] at hn
  obtain ⟨a, ha, hq, ho⟩ := hn
  obtain ⟨b1, b2⟩ := agO hb.1 e
  have hbb : Buf b := ⟨b1, by have := hb.2; omega⟩
  rw [ho, aV, aR (by simp)]
  dsimp only
  by_cases c : a = x0.length
  ·have hqn : q = [] := by rw [← hq]; exact (aiz ha).2 c
   rw [if_pos hqn, aR (by simp; omega)]
   have h1 := hu b hbb 0 (by omega)
   rw [List.drop_zero] at h1
   unfold iR at h1
   cases e1 : eR b with
   | er e' he =>
    rw [e1] at h1
    have h1 : NU b 0 = _ := h1
    rw [h1, aV, aN (afm he)]
   | ok c1 q1 =>
    rw [e1] at h1
    obtain ⟨a1, ha1, hq1, ho1⟩ := h1
    have ho1 : NU b 0 = _ := ho1
    rw [ho1, aV, aR (by simp)]
    dsimp only
    have h2 := hu b hbb a1 ha1
    rw [hq1] at h2
    unfold iR at h2
    cases e2 : eR q1 with
    | er e' he =>
     rw [e2] at h2
     have h2 : NU b (a1 : Int) = _ := h2
     rw [h2, aV, aN (afm he)]
    | ok c2 q2 =>
     rw [e2] at h2
     obtain ⟨a2, ha2, hq2, ho2⟩ := h2
     rw [ho2, aV, aR (by simp), aN (by simp; omega)]
     dsimp only
     rw [Int.toNat_natCast, anD, hq2]
  ·rw [if_neg (fun h => c ((aiz ha).1 (by rw [hq]; exact h))), aN (by simp; omega)]
theorem apy {x0 : List Int} (hb : Buf x0) : rQ x0 = some (nE x0) := by
 have h := alD hb 0 (by omega)
 rw [List.drop_zero] at h
 exact ajG hb h fun y hy p hp => xI hy p hp
theorem anR {x0 : List Int} (hb : Buf x0) : oC x0 = some (nE x0) := by
 have h := ako hb 0 (by omega)
 rw [List.drop_zero] at h
 exact ajG hb h fun y hy p hp => agp hy p hp
end Md
end PX
set_option linter.unusedVariables false
set_option linter.unusedSimpArgs false
namespace PX
open Go
namespace Md
def oQ : List aA → List Int → List Int × Int
 | [], w => (w, 0)
 | p :: r, w => cond ((sM p).2 != 0) ([], (sM p).2) (oQ r (w ++ (cD ((sM p).1.length : Int) ++ (sM p).1)))
end Md
end PX
set_option linter.unusedVariables false
set_option linter.unusedSimpArgs false
namespace PX
open Go
namespace Md
theorem ag7 : jE = some true := by kernel_rfl
def ad0 (t : aL) (l : List aA) : List Int := cD t.Conn ++ (cD (t.Sent + 1) ++ (oQ l []).1)
def aoY (t : aL) (l : List aA) : List Int × aL × Int :=
 cond t.Broken ([], t, 21) (cond (decide (t.Conn < 0)) ([], t, 1) (cond (decide (t.Conn > 1099511627776)) ([], t, 1) (cond (decide (t.Sent < 0)) ([], t, 1) (cond (decide (t.Sent ≥ 1099511627776)) ([], t, 1)
  (cond ((oQ l []).2 != 0) ([], t, (oQ l []).2) (acf (ad0 t l), aL.mk t.Conn (t.Sent + 1) t.Got t.Broken, 0))))))
def au9 (t : aL) (x0 : List Int) : List aA × aL × Int :=
 cond ((nE x0).2.2.2 != 0) ([], t, (nE x0).2.2.2) (cond ((xL 50000 (nE x0).2.2.1 []).2 != 0) ([], t, (xL 50000 (nE x0).2.2.1 []).2)
  (cond ((nE x0).1 != t.Conn) ([], t, 8) (cond t.Broken ([], t, 21) (cond (decide ((nE x0).2.1 ≤ t.Got)) ([], t, 26) (cond ((nE x0).2.1 != t.Got + 1) ([], aL.mk t.Conn t.Sent t.Got true, 22)
   ((xL 50000 (nE x0).2.2.1 []).1, aL.mk t.Conn t.Sent (t.Got + 1) t.Broken, 0))))))
end Md
end PX
set_option linter.unusedVariables false
namespace PX
open Go
namespace Md
theorem vW (p0 : (List Int)) (g0 : D.okL [.sl [.int .u8]] ([D.sl [.int .u8] (List.map (aJ .u8) p0)])) : jK p0 = some true := by
 unfold jK sA oD
 by_cases c : (p0.length : Int) > 6000
 ·rw [aN (by simpa using c), ag7]; rfl
 ·have hb : Buf p0 := ⟨amy g0, by omega⟩
  rw [aR (by simpa using c), apy hb, anR hb]
  simp only [aV]
  rw [aN (by simp), aN (by simp), aN (by simp), ag7]; rfl
end Md
end PX
