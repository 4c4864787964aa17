import Derived.Test.YtdgmdomlghamdaaDoorMsgB
import Derived.Test.YtdgmdomlghamdaaDoorGood
import Derived.KernelRfl
set_option linter.unusedVariables false
set_option linter.unusedSimpArgs false
namespace PX
open Go
namespace Md
def usedP (p : aA) : aA := (pB p).getD default
end Md
end PX
set_option linter.unusedVariables false
set_option linter.unusedSimpArgs false
namespace PX
open Go
namespace Md
abbrev zeroM : aE := aE.mk ([] : Str) ([] : Str) 0 false 0 0 ([] : Str) 0 ([] : List aB)
def abD (w : aW) : Int := cond w.Set (cond (rngB 0 1099511627776 w.Delay) (iC w.Message) 1) (cond (w.Delay == 0) (cond (decide (w.Message = zeroM)) 0 28) 28)
def agm (p : aA) : Int := cond (rngB 0 1099511627776 p.Keep) (cond (rngB 0 1099511627776 p.Expiry) (cond (rngB 1 32 p.Window) (abD p.Will) 1) 1) 1
def y8 (p : aA) : Int := cond (lI p.Client) (cond (p.User == []) (agm p) (cond (lI p.User) (agm p) 11)) 11
def yX (x : Int) : Int := cond (rngB 1 65535 x) 0 15
def zF (p : aA) : Int := cond (iC p.Message == 0) (cond (p.Message.Level == 0) (cond (p.ID == 0) (cond p.Dup 28 0) 15) (yX p.ID)) (iC p.Message)
def ajo (n : Int) : Int := cond (n == 0) 1 (cond (decide (32 < n)) 5 0)
def mY (x n : Int) : Int := cond (rngB 1 65535 x) (ajo n) 15
def wL (x : aG) : Int := cond (kO x.Filter) (cond (rngB 0 2 x.Level) (cond x.NoLocal (cond (rL x.Filter).isSome 28 0) 0) 14) 13
def jM {α : Type} (f : α → Int) : List α → Int
 | [] => 0
 | x :: r => cond (f x == 0) (jM f r) (f x)
def agh (s : Str) : Int := cond (kO s) 0 13
def ala (x : Int) : Int := cond (rngB 0 29 x) 0 1
def uE (p : aA) : Int := cond (mY p.ID p.Subs.length == 0) (jM wL p.Subs) (mY p.ID p.Subs.length)
def qN (p : aA) : Int := cond (mY p.ID p.Filters.length == 0) (jM agh p.Filters) (mY p.ID p.Filters.length)
def aaX (p : aA) : Int := cond (mY p.ID p.Codes.length == 0) (jM ala p.Codes) (mY p.ID p.Codes.length)
def aob (p : aA) : Int := cond (rngB 0 29 p.Code) (cond p.Present (cond (p.Code == 0) 0 28) 0) 1
def aac (p : aA) : Int :=
 cond (p.Kind == 1) (y8 p) (cond (p.Kind == 2) (aob p) (cond (p.Kind == 14) (aob p) (cond (p.Kind == 3) (zF p)
 (cond (p.Kind == 4) (yX p.ID) (cond (p.Kind == 5) (yX p.ID) (cond (p.Kind == 6) (yX p.ID) (cond (p.Kind == 7) (yX p.ID)
 (cond (p.Kind == 8) (uE p) (cond (p.Kind == 9) (aaX p) (cond (p.Kind == 11) (aaX p) (cond (p.Kind == 10) (qN p) 0)))))))))))
def nO (p : aA) : Int := cond (rngB 1 14 p.Kind) (cond (decide (p = usedP p)) (aac p) 28) 10
def aop (a b : Int) : Int := cond (a == 0) b a
end Md
end PX
set_option linter.unusedVariables false
set_option linter.unusedSimpArgs false
namespace PX
open Go
namespace Md
def pJ (l : List Int) (x : Int) : Nat := (l.takeWhile fun y => decide (y < x)).length
def aaR : Int → List Int → Bool
 | _, [] => true
 | a, x :: r => cond (decide (x ≤ a)) false (cond (decide (65535 < x)) false (aaR x r))
def ana (l : List Int) : Int := cond (decide ((l.length : Int) > 32)) 5 (cond (aaR 0 l) 0 15)
def avd (l : List Int) (x : Int) : List Int := (l.takeWhile fun y => decide (y < x)) ++ [x] ++ l.dropWhile fun y => decide (y < x)
end Md
end PX
set_option linter.unusedVariables false
set_option linter.unusedSimpArgs false
namespace PX
open Go
namespace Md
def aoI (k : Int) : Bool := rngB 3 7 k || k == 14
def auP (k : Int) : Bool := aoI k || (k == 1 || (k == 8 || (k == 10 || k == 12)))
def auQ (k : Int) : Bool := aoI k || (k == 2 || (k == 9 || (k == 11 || k == 13)))
def alZ (k i : Int) : aA := aA.mk k i false zeroM ([] : Str) ([] : Str) false 0 0 0 (aW.mk false 0 zeroM) false 0 ([] : List aG) ([] : List Str) ([] : List Int)
def xU (p : aA) : Int := cond (p.Kind == 3) (cond (p.Message.Level == 1) 4 (cond (p.Message.Level == 2) 5 0)) (cond (p.Kind == 5) 6 (cond (p.Kind == 6) 7 (cond (p.Kind == 12) 13 0)))
def akE (p : aA) : aA × Bool := cond (xU p == 0) (alZ 0 0, false) (alZ (xU p) p.ID, true)
end Md
end PX
set_option linter.unusedVariables false
set_option linter.unusedSimpArgs false
namespace PX
open Go
namespace Md
def leO (p : Option Str) (f : Str) : Bool := match p with | none => false | some g => Op.bytesLess f g || f == g
def sK : Option Str → List aG → Int
 | _, [] => 0
 | p, x :: r => cond (wL x == 0) (cond (leO p x.Filter) 22 (sK (some x.Filter) r)) (wL x)
def ao5 (l : List aG) : Int := cond (decide ((l.length : Int) > 32)) 5 (sK none l)
def aoU (l : List aG) (i : Nat) : Option Str := if i = 0 then none else some (l.getD (i - 1) default).Filter
def amG (l : List aE) : Int := cond (decide ((l.length : Int) > 256)) 5 (jM iC l)
def au8 (x : Int) : Int := cond (decide (x < 0)) 1 (cond (decide (x > 65535)) 1 0)
end Md
end PX
set_option linter.unusedVariables false
set_option linter.unusedSimpArgs false
namespace PX
open Go
namespace Md
theorem lP (x : Int) : IntKind.wrap .u64 x = x % 18446744073709551616 := by
 simp only [IntKind.wrap, IntKind.signed, IntKind.bits]; simp
theorem wu8 (x : Int) : IntKind.wrap .u8 x = x % 256 := by
 simp only [IntKind.wrap, IntKind.signed, IntKind.bits]; simp
theorem qD {x : Int} (h0 : -9223372036854775808 ≤ x) (h1 : x ≤ 9223372036854775807) : okI .i64 x := by
 simp only [okI, Go.Lit.wf, Go.IntKind.min, Go.IntKind.max, Go.IntKind.signed, Go.IntKind.bits, Bool.and_eq_true, decide_eq_true_eq, if_true]
 omega
def zzI (x : Int) : Int := if 0 ≤ x then 2 * x else -2 * x - 1
theorem aka {x : Int} (h0 : -9223372036854775808 ≤ x) (h1 : x ≤ 9223372036854775807) : lV x = some (zzI x) := by
 unfold lV zzI
 by_cases h : 0 ≤ x
 ·rw [aN (by simpa using h), if_pos h, lP, lP]
  congr 1
  omega
 ·rw [aR (by simpa using h), if_neg h, lP, lP, lP]
  rw [show IntKind.wrap .i64 (x + 1) = x + 1 by rw [IntKind.wrap_i64]; omega, show IntKind.wrap .i64 (0 - (x + 1)) = 0 - (x + 1) by rw [IntKind.wrap_i64]; omega]
  congr 1
  omega
def gO : Nat → Int → List Int
 | 0, _ => []
 | n + 1, x => if x ≥ 128 then (x % 128 + 128) :: gO n (x / 128) else [x]
theorem aqE {x : Int} (h0 : 0 ≤ x) (h1 : x < 18446744073709551616) : bP .and .u64 x 127 = x % 128 := by
 obtain ⟨n, rfl⟩ := Int.eq_ofNat_of_zero_le h0
 unfold bP
 simp only
 rw [lP, BitVec.toNat_and, BitVec.toNat_ofInt, BitVec.toNat_ofInt]
 show (((((n : Int) % (2 ^ 64 : Nat)).toNat &&& ((127 : Int) % (2 ^ 64 : Nat)).toNat) : Nat) : Int) % _ = _
 rw [show ((127 : Int) % (2 ^ 64 : Nat)).toNat = 2 ^ 7 - 1 by decide, Nat.and_two_pow_sub_one_eq_mod]
 omega
theorem arn {x : Int} (h0 : 0 ≤ x) (h1 : x < 128) : bP .or .u8 x 128 = x + 128 := by
 obtain ⟨n, rfl⟩ := Int.eq_ofNat_of_zero_le h0
 have hn : n < 128 := by omega
 unfold bP
 simp only
 rw [wu8, BitVec.toNat_or, BitVec.toNat_ofInt, BitVec.toNat_ofInt]
 show (((((n : Int) % (2 ^ 8 : Nat)).toNat ||| ((128 : Int) % (2 ^ 8 : Nat)).toNat) : Nat) : Int) % _ = _
 rw [show ((128 : Int) % (2 ^ 8 : Nat)).toNat = 2 ^ 7 * 1 by decide, show ((n : Int) % (2 ^ 8 : Nat)).toNat = n by omega, Nat.or_comm, ← Nat.two_pow_add_eq_or_of_lt (by omega)]
 omega
theorem ajK {x : Int} (h0 : 0 ≤ x) (h1 : x < 18446744073709551616) : bP .or .u8 (IntKind.wrap .u8 (bP .and .u64 x 127)) 128 = x % 128 + 128 ∧ shr .u64 x 7 = x / 128 ∧ IntKind.wrap .u8 (IntKind.wrap .u8 (Int.tmod x 128) + 128) = x % 128 + 128 ∧ IntKind.wrap .u64 (Int.tdiv x 128) = x / 128 := by
 refine ⟨?_, ?_, ?_, ?_⟩
 ·rw [aqE h0 h1, wu8, show x % 128 % 256 = x % 128 by omega, arn (by omega) (by omega)]
 ·unfold shr
  rw [show (2 : Int) ^ (min (7 : Int).toNat IntKind.u64.bits) = 128 by decide, Int.fdiv_eq_ediv_of_nonneg _ (by omega)]
 ·rw [Int.tmod_eq_emod_of_nonneg h0, wu8, wu8]; omega
 ·rw [Int.tdiv_eq_ediv_of_nonneg h0, lP]; omega
theorem afv : ∀ (n : Nat) (x : Int), (gO n x).length ≤ n
 | 0, _ => Nat.le_refl _
 | n + 1, x => by
  unfold gO
  split
  ·have := afv n (x / 128); simp only [List.length_cons]; omega
  ·simp
theorem amH : ∀ (n : Nat) (x : Int) (w : List Int) (fu : Nat), 0 ≤ x → x < 128 ^ (n + 1) → x < 18446744073709551616 → n < fu → w.length + n ≤ 100000000000000 → eP fu x w = some (w ++ gO (n + 1) x) := by
 have last : ∀ (x : Int) (w : List Int) (fu : Nat), 0 ≤ x → x < 128 → w.length ≤ 100000000000000 → eP (fu + 1) x w = some (w ++ [x]) := fun x w fu h0 h1 hw => by
  have e8 : IntKind.wrap .u8 x = x := by rw [wu8]; omega
  rw [eP, e8, aR (by simp; omega), aN (by simp; omega)]
 intro n
 induction n with
 | zero =>
  intro x w fu h0 h1 h2 hf hw
  obtain ⟨fu, rfl⟩ : ∃ n, fu = n + 1 := ⟨fu - 1, by omega⟩
  have h1 : x < 128 := by simpa using h1
  unfold gO
  rw [if_neg (by omega)]
  exact last x w fu h0 h1 (by omega)
 | succ n ih =>
  intro x w fu h0 h1 h2 hf hw
  obtain ⟨fu, rfl⟩ : ∃ n, fu = n + 1 := ⟨fu - 1, by omega⟩
  obtain ⟨s1, s2, s3, s4⟩ := ajK h0 h2
  rw [gO]
  by_cases c : x ≥ 128
  ·have hd : x / 128 < 128 ^ (n + 1) := by
    have : (128 : Int) ^ (n + 1 + 1) = 128 ^ (n + 1) * 128 := Int.pow_succ ..
    rw [this] at h1
    exact Int.ediv_lt_of_lt_mul (by omega) h1
   have i2 := ih (x / 128) (w ++ [x % 128 + 128]) fu (by omega) hd (by omega) (by omega) (by simp; omega)
   rw [if_pos c, eP, s3, s4, aN (by simpa using c), aN (by simp; omega), i2]; simp
  ·rw [if_neg c]
   exact last x w fu h0 (by omega) (by omega)
def cD (x : Int) : List Int := gO 10 (zzI x)
theorem bL (x : Int) : (cD x).length ≤ 10 := afv 10 _
theorem vY {x : Int} (h0 : -9223372036854775808 ≤ x) (h1 : x ≤ 9223372036854775807) : 0 ≤ zzI x ∧ zzI x < 18446744073709551616 := by
 unfold zzI
 split <;> omega
theorem aia (b : List Int) {x : Int} (hx : okI .i64 x) (hb : b.length ≤ 90000000000000) : iF b x = some (b ++ cD x) := by
 obtain ⟨h0, h1⟩ := ajC hx
 obtain ⟨z0, z1⟩ := vY h0 h1
 unfold iF
 rw [aN (by simp; omega), aka h0 h1, aV, List.nil_append, amH 9 (zzI x) b fuel z0 (by omega) z1 (by rw [kK]; omega) (by omega)]
 rfl
end Md
end PX
set_option linter.unusedVariables false
set_option linter.unusedSimpArgs false
namespace PX
open Go
namespace Md
def fJ (s : Str) : List Int := cD (s.length : Int) ++ ofStr s
structure aiE (m : aE) : Prop where
 t : m.Topic.length ≤ 100000
 p : m.Payload.length ≤ 100000
 f : m.From.length ≤ 100000
 n : m.Props.length ≤ 100
 k : ∀ x ∈ m.Props, x.Key.length ≤ 100000 ∧ x.Value.length ≤ 100000
 g : m.good
def mI (l : List aB) : List Int := l.flatMap fun x => fJ x.Key ++ fJ x.Value
def nH (m : aE) : List Int := fJ m.Topic ++ (fJ m.Payload ++ (cD m.Level ++ (cD (if m.Retain then 1 else 0) ++ (cD m.Priority ++ (cD m.Expires ++ (fJ m.From ++ (cD m.Seq ++ (cD (m.Props.length : Int) ++ mI m.Props))))))))
end Md
end PX
set_option linter.unusedVariables false
set_option linter.unusedSimpArgs false
namespace PX
open Go
namespace Md
inductive Rs (α : Type) where
 | ok (x : α) (q : List Int)
 | er (e : Int) (h : e ≠ 0)
abbrev Rd (α : Type) := List Int → Rs α
def eJ {α : Type} (x : α) : Rd α := fun l => .ok x l
def bJ {α β : Type} (r : Rd α) (f : α → Rd β) : Rd β := fun l => match r l with | .ok x q => f x q | .er e h => .er e h
def uA {α : Type} (e : Int) (h : e ≠ 0) : Rd α := fun _ => .er e h
theorem uO {α β : Type} {r : Rd α} {f : α → Rd β} {l : List Int} {e : Int} {h : e ≠ 0} (hr : r l = .er e h) : bJ r f l = .er e h := by unfold bJ; rw [hr]
def rN (i c : Nat) : Rd Nat
 | [] => .er 3 (by decide)
 | x :: q => if (i = 9 ∧ 1 < x) ∨ (0 < i ∧ x = 0) then .er 2 (by decide) else if x < 128 then .ok (c + (x % 128).toNat * 2 ^ (7 * i)) q else rN (i + 1) (c + (x % 128).toNat * 2 ^ (7 * i)) q
def sQ (c : Nat) : Int := if c % 2 = 0 then ((c / 2 : Nat) : Int) else -((c / 2 : Nat) : Int) - 1
def eR : Rd Int := bJ (rN 0 0) fun c => eJ (sQ c)
def iH (lim : Int) : Rd Int := bJ eR fun n => if n < 0 then uA 2 (by decide) else if n > lim then uA 5 (by decide) else eJ n
def pY (k : Int) : Rd Int := bJ eR fun n => if n < 0 ∨ n ≥ k then uA 2 (by decide) else eJ n
def vL (n : Nat) : Rd (List UInt8) := fun q => if n ≤ q.length then .ok (bytesOf (q.take n)) (q.drop n) else .er 3 (by decide)
def iU (lim : Int) : Rd (List UInt8) := bJ (iH lim) fun n => vL n.toNat
def nC {α : Type} (one : Rd α) : Nat → Rd (List α)
 | 0 => eJ []
 | n + 1 => bJ one fun x => bJ (nC one n) fun r => eJ (x :: r)
def rA {α : Type} (lim : Int) (one : Rd α) : Rd (List α) := bJ (iH lim) fun n => nC one n.toNat
def eG {α : Type} (r : Rd α) (b : List Int) (x : α) : Prop := ∀ q, r (b ++ q) = .ok x q
def lH {α : Type} (r : Rd α) (b : List Int) : Prop := ∀ l z, l ++ z = b → z ≠ [] → r l = .er 3 (by decide)
def byt (l : List Int) : Prop := ∀ x ∈ l, 0 ≤ x ∧ x < 256
def nD {α : Type} (r : Rd α) (w : α → List Int) (D : α → Prop) : Prop := ∀ l x q, byt l → r l = .ok x q → D x ∧ l = w x ++ q
theorem cQ {α β : Type} {r : Rd α} {f : α → Rd β} {l q : List Int} {y : β} (h : bJ r f l = .ok y q) : ∃ x m, r l = .ok x m ∧ f x m = .ok y q := by
 unfold bJ at h
 split at h
 ·exact ⟨_, _, by assumption, h⟩
 ·cases h
theorem alR (i : Nat) : 2 ^ (7 * (i + 1)) = 128 * 2 ^ (7 * i) := by rw [show 7 * (i + 1) = 7 + 7 * i by omega, Nat.pow_add]
theorem ada (k : Nat) {u : Nat} (h : u < 128) : gO (k + 1) (u : Int) = [(u : Int)] := by rw [gO, if_neg (by omega)]
theorem ac5 (k : Nat) {u : Nat} (h : ¬ u < 128) : gO (k + 1) (u : Int) = ((u % 128 + 128 : Nat) : Int) :: gO k ((u / 128 : Nat) : Int) := by
 rw [gO, if_pos (by omega), show ((u : Int) / 128) = ((u / 128 : Nat) : Int) by omega, show ((u : Int) % 128 + 128) = ((u % 128 + 128 : Nat) : Int) by omega]
theorem akV : ∀ (k i c v : Nat) (l q : List Int), i + k = 9 → byt l → rN i c l = .ok v q → ∃ u, v = c + u * 2 ^ (7 * i) ∧ u < 2 * 128 ^ k ∧ (0 < i → 0 < u) ∧ l = gO (k + 1) (u : Int) ++ q
 | k, i, c, v, [], q, hk, hb, h => by rw [rN] at h; cases h
 | k, i, c, v, x :: l, q, hk, hb, h => by
  have hx := hb x (by simp)
  rw [rN] at h
  split at h
  ·cases h
  ·rename_i h1
   split at h
   ·rename_i h2
    injection h with hv hq
    refine ⟨x.toNat, ?_, ?_, ?_, ?_⟩
    ·rw [← hv, show (x % 128).toNat = x.toNat by omega]
    ·have : 0 < 128 ^ k := Nat.pow_pos (by decide)
     by_cases k0 : k = 0
     ·subst k0; simp; omega
     ·obtain ⟨j, rfl⟩ : ∃ j, k = j + 1 := ⟨k - 1, by omega⟩
      have : 0 < 128 ^ j := Nat.pow_pos (by decide)
      rw [Nat.pow_succ]; omega
    ·omega
    ·rw [ada k (by omega), hq, show ((x.toNat : Nat) : Int) = x by omega]; rfl
   ·rename_i h2
    cases k with
    | zero => omega
    | succ k =>
     obtain ⟨u, e1, e2, e3, e4⟩ := akV k (i + 1) _ v l q (by omega) (fun y hy => hb y (by simp [hy])) h
     have u0 := e3 (by omega)
     refine ⟨(x % 128).toNat + 128 * u, ?_, ?_, ?_, ?_⟩
     ·rw [e1, alR, Nat.add_mul, Nat.add_assoc]
      congr 2
      rw [Nat.mul_comm 128 u, Nat.mul_assoc]
     ·rw [Nat.pow_succ]; omega
     ·omega
     ·rw [ac5 (k + 1) (by omega), show ((x % 128).toNat + 128 * u) / 128 = u by omega, show ((x % 128).toNat + 128 * u) % 128 + 128 = x.toNat by omega, show ((x.toNat : Nat) : Int) = x by omega, List.cons_append, ← e4]
theorem akI (c : Nat) : zzI (sQ c) = (c : Int) := by
 unfold sQ zzI
 split <;> split <;> omega
def i64 (x : Int) : Prop := -9223372036854775808 ≤ x ∧ x ≤ 9223372036854775807
theorem iO : nD eR cD i64 := fun l x q hb h => by
 obtain ⟨c, m, h1, h2⟩ := cQ h
 obtain ⟨u, e1, e2, _, e4⟩ := akV 9 0 0 c l m (by decide) hb h1
 injection h2 with h2 h3
 simp only [Nat.mul_zero, Nat.pow_zero, Nat.mul_one, Nat.zero_add] at e1
 subst e1
 refine ⟨?_, ?_⟩
 ·subst h2
  unfold i64 sQ
  split <;> omega
 ·unfold cD
  rw [← h2, akI, e4, h3]
theorem tP (lim : Int) : nD (iH lim) cD (fun x => 0 ≤ x ∧ x ≤ lim ∧ i64 x) := fun l x q hb h => by
 obtain ⟨c, m, h1, h2⟩ := cQ h
 obtain ⟨a, b⟩ := iO l c m hb h1
 split at h2
 ·cases h2
 ·split at h2
  ·cases h2
  ·injection h2 with h2 h3
   subst h2 h3
   exact ⟨⟨by omega, by omega, a⟩, b⟩
theorem sL : ∀ {l : List Int}, byt l → ofStr (bytesOf l) = l
 | [], _ => rfl
 | x :: r, h => by
  have hx := h x (by simp)
  have ih := sL (l := r) fun y hy => h y (by simp [hy])
  show ((UInt8.ofNat x.toNat).toNat : Int) :: ofStr (bytesOf r) = x :: r
  rw [ih, UInt8.toNat_ofNat']
  congr 1
  omega
def zK {α : Type} (r : Rd α) : Prop := ∀ l x q, r l = .ok x q → ∃ a, a ≤ l.length ∧ q = l.drop a
end Md
end PX
set_option linter.unusedVariables false
set_option linter.unusedSimpArgs false
namespace PX
open Go
namespace Md
theorem aty {v : Int} (h0 : 0 ≤ v) (h1 : v < 18446744073709551616) : bP .and .u64 v 1 = v % 2 := by
 show IntKind.wrap .u64 (((BitVec.ofInt 64 v &&& BitVec.ofInt 64 1).toNat : Nat) : Int) = _
 rw [BitVec.toNat_and, BitVec.toNat_ofInt, BitVec.toNat_ofInt, lP, show ((1 : Int) % ((2 ^ 64 : Nat) : Int)).toNat = 2 ^ 1 - 1 by decide, Nat.and_two_pow_sub_one_eq_mod]
 omega
theorem ahB {x : Int} (h0 : -9223372036854775808 ≤ x) (h1 : x ≤ 9223372036854775807) : hI (zzI x) = some x := by
 obtain ⟨z0, z1⟩ := vY h0 h1
 have es : shr .u64 (zzI x) 1 = zzI x / 2 := by
  unfold shr
  rw [show (2 : Int) ^ (min (1 : Int).toNat IntKind.u64.bits) = 2 by decide, Int.fdiv_eq_ediv_of_nonneg _ (by omega)]
 unfold hI
 rw [aty z0 z1, es]
 unfold zzI at *
 by_cases h : 0 ≤ x
 ·rw [if_pos h] at *
  rw [aR (by simp), IntKind.wrap_i64]
  congr 1
  omega
 ·rw [if_neg h] at *
  rw [aN (by simp; omega)]
  congr 1
  rw [show IntKind.wrap .i64 ((-2 * x - 1) / 2) = -x - 1 by rw [IntKind.wrap_i64]; omega, show IntKind.wrap .i64 (0 - (-x - 1)) = x + 1 by rw [IntKind.wrap_i64]; omega, IntKind.wrap_i64]
  omega
theorem anA {c : Int} (h0 : 0 ≤ c) (h1 : c < 256) : bP .and .u8 c 127 = c % 128 := by
 show IntKind.wrap .u8 (((BitVec.ofInt 8 c &&& BitVec.ofInt 8 127).toNat : Nat) : Int) = _
 rw [BitVec.toNat_and, BitVec.toNat_ofInt, BitVec.toNat_ofInt, wu8, show ((127 : Int) % ((2 ^ 8 : Nat) : Int)).toNat = 2 ^ 7 - 1 by decide, Nat.and_two_pow_sub_one_eq_mod]
 omega
theorem aqm {a d : Nat} {k : Nat} (h : a < 2 ^ k) (h2 : a + d * 2 ^ k < 18446744073709551616) : bP .or .u64 (a : Int) ((d * 2 ^ k : Nat) : Int) = ((a + d * 2 ^ k : Nat) : Int) := by
 obtain ⟨m, hm⟩ : ∃ m, m = d * 2 ^ k := ⟨_, rfl⟩
 rw [← hm] at h2 ⊢
 show IntKind.wrap .u64 (((BitVec.ofInt 64 (a : Int) ||| BitVec.ofInt 64 (m : Int)).toNat : Nat) : Int) = _
 rw [BitVec.toNat_or, BitVec.toNat_ofInt, BitVec.toNat_ofInt, lP]
 have e1 : (((a : Int) % ((2 ^ 64 : Nat) : Int)).toNat) = a := by omega
 have e2 : (((m : Int) % ((2 ^ 64 : Nat) : Int)).toNat) = 2 ^ k * d := by rw [Nat.mul_comm, ← hm]; omega
 rw [e1, e2, Nat.or_comm, ← Nat.two_pow_add_eq_or_of_lt h, Nat.mul_comm, ← hm]
 omega
end Md
end PX
set_option linter.unusedVariables false
set_option linter.unusedSimpArgs false
namespace PX
open Go
namespace Md
theorem zX {x0 : List Int} {p i acc c : Nat} (fu : Nat) (hi : i ≤ 9) (hl : x0.length ≤ 100000000000000) (hp : p + i < x0.length) (hc : x0[p + i] = (c : Int)) (h9 : i = 9 → c ≤ 1) (h0 : 0 < i → 0 < c) (h8 : c < 256) (ha : acc < 2 ^ (7 * i)) (hs : acc + (c % 128) * 2 ^ (7 * i) < 18446744073709551616) :
  cX (fu + 1) x0 (p : Int) (acc : Int) (i : Int) = cond (decide (c < 128)) (Option.bind (hI ((acc + (c % 128) * 2 ^ (7 * i) : Nat) : Int)) fun r => some (r, ((p + i + 1 : Nat) : Int), 0)) (cX fu x0 (p : Int) ((acc + (c % 128) * 2 ^ (7 * i) : Nat) : Int) ((i + 1 : Nat) : Int)) := by
 have e1 : IntKind.wrap .i64 ((p : Int) + (i : Int)) = ((p + i : Nat) : Int) := by rw [IntKind.wrap_i64]; omega
 have e7 : IntKind.wrap .i64 (7 * (i : Int)) = ((7 * i : Nat) : Int) := by rw [IntKind.wrap_i64]; omega
 have j11 : ∀ (a b d : Bool) (y : Int), hJ (cX fu) x0 (p : Int) (acc : Int) (i : Int) (c : Int) y a b d = cond (decide (c < 128)) (Option.bind (hI ((acc + (c % 128) * 2 ^ (7 * i) : Nat) : Int)) fun r => some (r, ((p + i + 1 : Nat) : Int), 0)) (cX fu x0 (p : Int) ((acc + (c % 128) * 2 ^ (7 * i) : Nat) : Int) ((i + 1 : Nat) : Int)) := fun a b d y => by
  unfold hJ
  have es : shl .u64 (IntKind.wrap .u64 (bP .and .u8 (c : Int) 127)) (IntKind.wrap .i64 (7 * (i : Int))) = (((c % 128) * 2 ^ (7 * i) : Nat) : Int) := by
   rw [anA (by omega) (by omega), e7]
   unfold shl
   have em : min ((7 * i : Nat) : Int).toNat IntKind.u64.bits = 7 * i := by
    show min _ 64 = _
    omega
   rw [em, lP ((c : Int) % 128), lP, show ((c : Int) % 128 % 18446744073709551616) = ((c % 128 : Nat) : Int) by omega]
   obtain ⟨m, hm⟩ : ∃ m, m = (c % 128) * 2 ^ (7 * i) := ⟨_, rfl⟩
   have : ((c % 128 : Nat) : Int) * 2 ^ (7 * i) = (m : Int) := by rw [hm]; push_cast; rfl
   rw [this, ← hm]
   rw [← hm] at hs
   omega
  rw [es, aqm ha hs, e7, e1, aN (by simp; omega), cZ (by omega), cZ (by omega)]
  by_cases h : c < 128
  ·rw [aN (by simp; omega), aN (by simpa using h)]
  ·rw [aR (by simp; omega), aR (by simpa using h)]
 rw [cX, e1, aR (by simp; omega), aN (inr hp), dO hp, hc]
 have inner : (cond (decide ((i : Int) > 0)) (cond ((c : Int) == 0) (some (0, 0, 2)) (hJ (cX fu) x0 (p : Int) (acc : Int) (i : Int) (c : Int) (i : Int) (decide ((i : Int) > 0)) true ((c : Int) == 0))) (hJ (cX fu) x0 (p : Int) (acc : Int) (i : Int) (c : Int) (i : Int) (decide ((i : Int) > 0)) false false)) = cond (decide (c < 128)) (Option.bind (hI ((acc + (c % 128) * 2 ^ (7 * i) : Nat) : Int)) fun r => some (r, ((p + i + 1 : Nat) : Int), 0)) (cX fu x0 (p : Int) ((acc + (c % 128) * 2 ^ (7 * i) : Nat) : Int) ((i + 1 : Nat) : Int)) := by
  rw [j11, j11]
  by_cases h : 0 < i
  ·have hc0 : ((c : Int) == 0) = false := by have := h0 h; simp; omega
   rw [aN (by simp; omega), hc0, jT]
  ·rw [aR (by simp; omega)]
 by_cases n9 : i = 9
 ·rw [aN (by simp; omega), aR (by have := h9 n9; simp; omega)]
  exact inner
 ·rw [aR (by simp; omega)]
  exact inner
end Md
end PX
set_option linter.unusedVariables false
set_option linter.unusedSimpArgs false
namespace PX
open Go
namespace Md
theorem abi {v : Nat} (h : v < 18446744073709551616) : hI (v : Int) = some (sQ v) := by
 have e := akI v
 rw [← e]
 refine ahB ?_ ?_ <;> unfold sQ <;> split <;> omega
theorem aiq {v : Nat} (h : v < 18446744073709551616) : kE (v : Int) = some (sQ v) := by
 unfold kE sQ
 rw [Int.tmod_eq_emod_of_nonneg (by omega), Int.tdiv_eq_ediv_of_nonneg (by omega), lP]
 have e1 : (v : Int) / 2 % 18446744073709551616 = ((v / 2 : Nat) : Int) := by omega
 have e2 : IntKind.wrap .i64 ((v / 2 : Nat) : Int) = ((v / 2 : Nat) : Int) := by rw [IntKind.wrap_i64]; omega
 have e3 : IntKind.wrap .i64 (0 - ((v / 2 : Nat) : Int)) = -((v / 2 : Nat) : Int) := by rw [IntKind.wrap_i64]; omega
 have e4 : IntKind.wrap .i64 (-((v / 2 : Nat) : Int) - 1) = -((v / 2 : Nat) : Int) - 1 := by rw [IntKind.wrap_i64]; omega
 rw [e1, e2, e3, e4]
 by_cases c : v % 2 = 0
 ·rw [aN (by simp; omega), if_pos c]
 ·rw [aR (by simp; omega), if_neg c]
theorem xC {i acc c : Nat} (hi : i ≤ 9) (h9 : i = 9 → c ≤ 1) (ha : acc < 2 ^ (7 * i)) : acc + c % 128 * 2 ^ (7 * i) < 18446744073709551616 ∧ (i ≤ 8 → acc + c % 128 * 2 ^ (7 * i) < 2 ^ (7 * (i + 1))) := by
 have hc : c % 128 ≤ 127 := by omega
 have e8 : i ≤ 8 → 2 ^ (7 * i) ≤ 72057594037927936 := fun h => by
  have : 2 ^ (7 * i) ≤ 2 ^ 56 := Nat.pow_le_pow_right (by decide) (by omega)
  simpa using this
 rw [alR]
 obtain ⟨M, hM⟩ : ∃ M, M = 2 ^ (7 * i) := ⟨_, rfl⟩
 rw [← hM] at ha e8 ⊢
 have h1 : c % 128 * M ≤ 127 * M := Nat.mul_le_mul_right _ hc
 by_cases c9 : i = 9
 ·subst c9
  have : M = 9223372036854775808 := by rw [hM]
  have : c % 128 ≤ 1 := by have := h9 rfl; omega
  have h1 : c % 128 * M ≤ 1 * M := Nat.mul_le_mul_right _ this
  omega
 ·have := e8 (by omega)
  omega
theorem am0 : ∀ (k i c p fu : Nat) (x0 : List Int), i + k = 9 → k < fu → p + i ≤ x0.length → x0.length ≤ 100000000000000 → byt x0 → c < 2 ^ (7 * i) →
  match rN i c (x0.drop (p + i)) with
  | .ok v q => v < 18446744073709551616 ∧ ∃ a : Nat, a ≤ x0.length ∧ x0.drop a = q ∧ cX fu x0 (p : Int) (c : Int) (i : Int) = some (sQ v, (a : Int), 0)
  | .er e _ => cX fu x0 (p : Int) (c : Int) (i : Int) = some (0, 0, e) := by
 intro k
 induction k with
 | zero =>
  intro i c p fu x0 hk hf hp hl hb hc
  obtain ⟨fu, rfl⟩ : ∃ n, fu = n + 1 := ⟨fu - 1, by omega⟩
  have e1 : IntKind.wrap .i64 ((p : Int) + (i : Int)) = ((p + i : Nat) : Int) := by rw [IntKind.wrap_i64]; omega
  by_cases he : p + i = x0.length
  ·rw [List.drop_eq_nil_of_le (by omega), rN]
   show _ = _
   rw [cX, e1, aN (by simp; omega)]
  ·have hlt : p + i < x0.length := by omega
   have hx := hb _ (List.getElem_mem hlt)
   rw [List.drop_eq_getElem_cons hlt, rN]
   by_cases c1 : (i = 9 ∧ 1 < x0[p + i]) ∨ (0 < i ∧ x0[p + i] = 0)
   ·rw [if_pos c1]
    show _ = _
    rw [cX, e1, aR (by simp; omega), aN (inr hlt), dO hlt, aN (by simp; omega)]
    by_cases c2 : 1 < x0[p + i]
    ·rw [aN (by simpa using c2)]
    ·rw [aR (by simpa using c2), aN (by simp; omega), aN (by simp; omega)]
   ·rw [if_neg c1, if_pos (by omega)]
    obtain ⟨n, hn⟩ := Int.eq_ofNat_of_zero_le hx.1
    obtain ⟨sb, _⟩ := xC (i := i) (c := n) (by omega) (fun h => by omega) hc
    have := zX fu (by omega) hl hlt hn (fun h => by omega) (fun h => by omega) (by omega) hc sb
    have en : (x0[p + i] % 128).toNat = n % 128 := by omega
    rw [en]
    refine ⟨sb, p + i + 1, by omega, rfl, ?_⟩
    rw [this, aN (by simp; omega), abi sb]
    rfl
 | succ k ih =>
  intro i c p fu x0 hk hf hp hl hb hc
  obtain ⟨fu, rfl⟩ : ∃ n, fu = n + 1 := ⟨fu - 1, by omega⟩
  have e1 : IntKind.wrap .i64 ((p : Int) + (i : Int)) = ((p + i : Nat) : Int) := by rw [IntKind.wrap_i64]; omega
  by_cases he : p + i = x0.length
  ·rw [List.drop_eq_nil_of_le (by omega), rN]
   show _ = _
   rw [cX, e1, aN (by simp; omega)]
  ·have hlt : p + i < x0.length := by omega
   have hx := hb _ (List.getElem_mem hlt)
   rw [List.drop_eq_getElem_cons hlt, rN]
   by_cases c1 : (i = 9 ∧ 1 < x0[p + i]) ∨ (0 < i ∧ x0[p + i] = 0)
   ·rw [if_pos c1]
    show _ = _
    rw [cX, e1, aR (by simp; omega), aN (inr hlt), dO hlt, aR (by simp; omega), aN (by simp; omega), aN (by simp; omega)]
   ·rw [if_neg c1]
    obtain ⟨n, hn⟩ := Int.eq_ofNat_of_zero_le hx.1
    obtain ⟨sb, sc⟩ := xC (i := i) (c := n) (by omega) (fun h => by omega) hc
    have := zX fu (by omega) hl hlt hn (fun h => by omega) (fun h => by omega) (by omega) hc sb
    have en : (x0[p + i] % 128).toNat = n % 128 := by omega
    rw [en]
    by_cases c2 : x0[p + i] < 128
    ·rw [if_pos c2]
     refine ⟨sb, p + i + 1, by omega, rfl, ?_⟩
     rw [this, aN (by simp; omega), abi sb]
     rfl
    ·rw [if_neg c2]
     have := ih (i + 1) (c + n % 128 * 2 ^ (7 * i)) p fu x0 (by omega) (by omega) (by omega) hl hb (sc (by omega))
     rename_i h1
     rw [h1, aR (by simp; omega)]
     exact this
def iR {α : Type} (x0 : List Int) (z : α) (R : Rs α) (o : Option (α × Int × Int)) : Prop :=
 match R with
 | .ok v q => ∃ a : Nat, a ≤ x0.length ∧ x0.drop a = q ∧ o = some (v, (a : Int), 0)
 | .er e _ => o = some (z, 0, e)
def Buf (x0 : List Int) : Prop := byt x0 ∧ x0.length ≤ 1000000000
theorem xI {x0 : List Int} (hb : Buf x0) (p : Nat) (hp : p ≤ x0.length) : iR x0 0 (eR (x0.drop p)) (kU x0 (p : Int)) := by
 unfold kU sC
 have hl := hb.2
 rw [aR (by simp), aR (by simp; omega)]
 have := am0 9 0 0 p fuel x0 (by decide) (by rw [kK]; omega) (by omega) (by omega) hb.1 (by decide)
 unfold iR eR bJ
 rw [Nat.add_zero] at this
 cases h : rN 0 0 (x0.drop p) with
 | ok v q =>
  rw [h] at this
  obtain ⟨_, a, h1, h2, h3⟩ := this
  exact ⟨a, h1, h2, h3⟩
 | er e he =>
  rw [h] at this
  exact this
theorem aoV {x0 : List Int} {p i acc c : Nat} (fu : Nat) (hi : i ≤ 9) (hl : x0.length ≤ 100000000000000) (hp : p + i < x0.length) (hc : x0[p + i] = (c : Int)) (h9 : i = 9 → c = 1) (h0 : 0 < i → 0 < c) (h8 : c < 256) (ha : acc < 2 ^ (7 * i)) (hs : acc + (c % 128) * 2 ^ (7 * i) < 18446744073709551616) :
  bY (fu + 1) x0 (p : Int) (acc : Int) ((2 ^ (7 * i) : Nat) : Int) (i : Int) = cond (decide (c < 128)) (some (sQ (acc + (c % 128) * 2 ^ (7 * i)), ((p + i + 1 : Nat) : Int), 0)) (bY fu x0 (p : Int) ((acc + (c % 128) * 2 ^ (7 * i) : Nat) : Int) (IntKind.wrap .u64 (((2 ^ (7 * i) : Nat) : Int) * 128)) ((i + 1 : Nat) : Int)) := by
 have e1 : IntKind.wrap .i64 ((p : Int) + (i : Int)) = ((p + i : Nat) : Int) := by rw [IntKind.wrap_i64]; omega
 have e2 : IntKind.wrap .i64 ((x0.length : Int) - (p : Int)) = (x0.length : Int) - p := by rw [IntKind.wrap_i64]; omega
 have ev : IntKind.wrap .u64 ((acc : Int) + IntKind.wrap .u64 (IntKind.wrap .u64 (Int.tmod (c : Int) 128) * ((2 ^ (7 * i) : Nat) : Int))) = ((acc + (c % 128) * 2 ^ (7 * i) : Nat) : Int) := by
  obtain ⟨m, hm⟩ : ∃ m, m = (c % 128) * 2 ^ (7 * i) := ⟨_, rfl⟩
  rw [Int.tmod_eq_emod_of_nonneg (by omega), lP ((c : Int) % 128), show (c : Int) % 128 % 18446744073709551616 = ((c % 128 : Nat) : Int) by omega]
  have : ((c % 128 : Nat) : Int) * ((2 ^ (7 * i) : Nat) : Int) = (m : Int) := by rw [hm, Int.natCast_mul]
  rw [this, ← hm, lP, lP]
  rw [← hm] at hs
  omega
 have j13 : ∀ (a b d : Bool) (y : Int), dU (bY fu) x0 (p : Int) (acc : Int) ((2 ^ (7 * i) : Nat) : Int) (i : Int) (c : Int) y a b d = cond (decide (c < 128)) (some (sQ (acc + (c % 128) * 2 ^ (7 * i)), ((p + i + 1 : Nat) : Int), 0)) (bY fu x0 (p : Int) ((acc + (c % 128) * 2 ^ (7 * i) : Nat) : Int) (IntKind.wrap .u64 (((2 ^ (7 * i) : Nat) : Int) * 128)) ((i + 1 : Nat) : Int)) := fun a b d y => by
  unfold dU
  rw [ev, e1, cZ (by omega), cZ (by omega), aiq hs, aV]
  by_cases h : c < 128
  ·rw [aN (by simp; omega), aN (by simpa using h)]
  ·rw [aR (by simp; omega), aR (by simpa using h)]
 rw [bY, aN (by simp; omega), e2, aR (by simp; omega), e1, aN (inr hp), dO hp, hc]
 have inner : (cond (decide ((i : Int) > 0)) (cond ((c : Int) == 0) (some (0, 0, 2)) (dU (bY fu) x0 (p : Int) (acc : Int) ((2 ^ (7 * i) : Nat) : Int) (i : Int) (c : Int) (i : Int) (decide ((i : Int) > 0)) true ((c : Int) == 0))) (dU (bY fu) x0 (p : Int) (acc : Int) ((2 ^ (7 * i) : Nat) : Int) (i : Int) (c : Int) (i : Int) (decide ((i : Int) > 0)) false false)) = cond (decide (c < 128)) (some (sQ (acc + (c % 128) * 2 ^ (7 * i)), ((p + i + 1 : Nat) : Int), 0)) (bY fu x0 (p : Int) ((acc + (c % 128) * 2 ^ (7 * i) : Nat) : Int) (IntKind.wrap .u64 (((2 ^ (7 * i) : Nat) : Int) * 128)) ((i + 1 : Nat) : Int)) := by
  rw [j13, j13]
  by_cases h : 0 < i
  ·have hc0 : ((c : Int) == 0) = false := by have := h0 h; simp; omega
   rw [aN (by simp; omega), hc0, jT]
  ·rw [aR (by simp; omega)]
 by_cases n9 : i = 9
 ·rw [aN (by simp; omega), aR (by have := h9 n9; simp; omega)]
  exact inner
 ·rw [aR (by simp; omega)]
  exact inner
theorem amN : ∀ (k i c p fu : Nat) (x0 : List Int), i + k = 9 → k < fu → p + i ≤ x0.length → x0.length ≤ 100000000000000 → byt x0 → c < 2 ^ (7 * i) →
  match rN i c (x0.drop (p + i)) with
  | .ok v q => ∃ a : Nat, a ≤ x0.length ∧ x0.drop a = q ∧ bY fu x0 (p : Int) (c : Int) ((2 ^ (7 * i) : Nat) : Int) (i : Int) = some (sQ v, (a : Int), 0)
  | .er e _ => bY fu x0 (p : Int) (c : Int) ((2 ^ (7 * i) : Nat) : Int) (i : Int) = some (0, 0, e) := by
 intro k
 induction k with
 | zero =>
  intro i c p fu x0 hk hf hp hl hb hc
  obtain ⟨fu, rfl⟩ : ∃ n, fu = n + 1 := ⟨fu - 1, by omega⟩
  have e1 : IntKind.wrap .i64 ((p : Int) + (i : Int)) = ((p + i : Nat) : Int) := by rw [IntKind.wrap_i64]; omega
  have e2 : IntKind.wrap .i64 ((x0.length : Int) - (p : Int)) = (x0.length : Int) - p := by rw [IntKind.wrap_i64]; omega
  by_cases he : p + i = x0.length
  ·rw [List.drop_eq_nil_of_le (by omega), rN]
   show _ = _
   rw [bY, aN (by simp; omega), e2, aN (by simp; omega)]
  ·have hlt : p + i < x0.length := by omega
   have hx := hb _ (List.getElem_mem hlt)
   rw [List.drop_eq_getElem_cons hlt, rN]
   by_cases c1 : (i = 9 ∧ 1 < x0[p + i]) ∨ (0 < i ∧ x0[p + i] = 0)
   ·rw [if_pos c1]
    show _ = _
    rw [bY, aN (by simp; omega), e2, aR (by simp; omega), e1, aN (inr hlt), dO hlt, aN (by simp; omega), aN (by simp; omega)]
   ·rw [if_neg c1, if_pos (by omega)]
    obtain ⟨n, hn⟩ := Int.eq_ofNat_of_zero_le hx.1
    obtain ⟨sb, _⟩ := xC (i := i) (c := n) (by omega) (fun h => by omega) hc
    have := aoV fu (by omega) hl hlt hn (fun h => by omega) (fun h => by omega) (by omega) hc sb
    have en : (x0[p + i] % 128).toNat = n % 128 := by omega
    rw [en]
    refine ⟨p + i + 1, by omega, rfl, ?_⟩
    rw [this, aN (by simp; omega)]
 | succ k ih =>
  intro i c p fu x0 hk hf hp hl hb hc
  obtain ⟨fu, rfl⟩ : ∃ n, fu = n + 1 := ⟨fu - 1, by omega⟩
  have e1 : IntKind.wrap .i64 ((p : Int) + (i : Int)) = ((p + i : Nat) : Int) := by rw [IntKind.wrap_i64]; omega
  have e2 : IntKind.wrap .i64 ((x0.length : Int) - (p : Int)) = (x0.length : Int) - p := by rw [IntKind.wrap_i64]; omega
  by_cases he : p + i = x0.length
  ·rw [List.drop_eq_nil_of_le (by omega), rN]
   show _ = _
   rw [bY, aN (by simp; omega), e2, aN (by simp; omega)]
  ·have hlt : p + i < x0.length := by omega
   have hx := hb _ (List.getElem_mem hlt)
   rw [List.drop_eq_getElem_cons hlt, rN]
   by_cases c1 : (i = 9 ∧ 1 < x0[p + i]) ∨ (0 < i ∧ x0[p + i] = 0)
   ·rw [if_pos c1]
    show _ = _
    rw [bY, aN (by simp; omega), e2, aR (by simp; omega), e1, aN (inr hlt), dO hlt, aR (by simp; omega), aN (by simp; omega), aN (by simp; omega)]
   ·rw [if_neg c1]
    obtain ⟨n, hn⟩ := Int.eq_ofNat_of_zero_le hx.1
    obtain ⟨sb, sc⟩ := xC (i := i) (c := n) (by omega) (fun h => by omega) hc
    have := aoV fu (by omega) hl hlt hn (fun h => by omega) (fun h => by omega) (by omega) hc sb
    have en : (x0[p + i] % 128).toNat = n % 128 := by omega
    rw [en]
    by_cases c2 : x0[p + i] < 128
    ·rw [if_pos c2]
     refine ⟨p + i + 1, by omega, rfl, ?_⟩
     rw [this, aN (by simp; omega)]
    ·rw [if_neg c2]
     have ep : IntKind.wrap .u64 (((2 ^ (7 * i) : Nat) : Int) * 128) = ((2 ^ (7 * (i + 1)) : Nat) : Int) := by
      have h8 : 2 ^ (7 * i) ≤ 2 ^ 56 := Nat.pow_le_pow_right (by decide) (by omega)
      rw [alR, lP]
      obtain ⟨M, hM⟩ : ∃ M, M = 2 ^ (7 * i) := ⟨_, rfl⟩
      rw [← hM] at h8 ⊢
      have : (2 : Nat) ^ 56 = 72057594037927936 := by decide
      omega
     have h2 := ih (i + 1) (c + n % 128 * 2 ^ (7 * i)) p fu x0 (by omega) (by omega) (by omega) hl hb (sc (by omega))
     rw [this, aR (by simp; omega), ep]
     exact h2
theorem agp {x0 : List Int} (hb : Buf x0) (p : Nat) (hp : p ≤ x0.length) : iR x0 0 (eR (x0.drop p)) (iV x0 (p : Int)) := by
 unfold iV mS
 have hl := hb.2
 rw [aR (by simp), aR (by simp; omega)]
 have := amN 9 0 0 p fuel x0 (by decide) (by rw [kK]; omega) (by omega) (by omega) hb.1 (by decide)
 unfold iR eR bJ
 rw [Nat.add_zero] at this
 cases h : rN 0 0 (x0.drop p) with
 | ok v q =>
  rw [h] at this
  obtain ⟨a, h1, h2, h3⟩ := this
  exact ⟨a, h1, h2, h3⟩
 | er e he =>
  rw [h] at this
  exact this
theorem ai2 {x0 : List Int} (hb : Buf x0) (lim : Int) (p : Nat) (hp : p ≤ x0.length) : iR x0 0 (iH lim (x0.drop p)) (lB x0 (p : Int) lim) := by
 have := agp hb p hp
 unfold lB iH bJ
 unfold iR at this
 cases h : eR (x0.drop p) with
 | ok v q =>
  rw [h] at this
  obtain ⟨a, h1, h2, h3⟩ := this
  rw [h3, aV, aR (by simp)]
  dsimp only
  by_cases c1 : v < 0
  ·rw [aN (by simpa using c1), if_pos c1]; rfl
  ·rw [aR (by simpa using c1), if_neg c1]
   by_cases c2 : v > lim
   ·rw [aN (by simpa using c2), if_pos c2]; rfl
   ·rw [aR (by simpa using c2), if_neg c2]
    exact ⟨a, h1, h2, rfl⟩
 | er e he =>
  rw [h] at this
  rw [this, aV, aN (by simpa using he)]
  rfl
end Md
end PX
set_option linter.unusedVariables false
set_option linter.unusedSimpArgs false
namespace PX
open Go
namespace Md
def okM (m : aE) : Prop := m.Props.length * 32 ≤ 140737488351232
def okQ (q : List aE) : Prop := q.length ≤ 1000000 ∧ ∀ m ∈ q, okM m
def ajF (q : List aE) (m : aE) (max pol : Int) : List aE × List aE × Bool :=
 if (q.length : Int) < max then (q ++ [m], [], false)
 else if pol ≠ 1 ∨ max < 1 then (q, [m], pol == 3)
 else (q.tail ++ [m], [q.headD default], false)
def live (now : Int) (m : aE) : Bool := !(m.Expires != 0 && decide (now ≥ m.Expires))
end Md
end PX
set_option linter.unusedVariables false
set_option linter.unusedSimpArgs false
namespace PX
open Go
namespace Md
def lv (m : aE) : Bool := m.Level != 0
end Md
end PX
set_option linter.unusedVariables false
set_option linter.unusedSimpArgs false
namespace PX
open Go
namespace Md
def gA (b : Bool) : Int := if b then 1 else 0
def tW (x : aG) : List Int := fJ x.Filter ++ (cD x.Level ++ cD (gA x.NoLocal))
end Md
end PX
set_option linter.unusedVariables false
set_option linter.unusedSimpArgs false
namespace PX
open Go
namespace Md
def mT {α : Type} (f : α → List Int) (l : List α) : List Int := cD (l.length : Int) ++ l.flatMap f
def tO (w : aW) : List Int := if w.Set then cD w.Delay ++ nH w.Message else []
end Md
end PX
set_option linter.unusedVariables false
set_option linter.unusedSimpArgs false
namespace PX
open Go
namespace Md
def Aft {S ρ β : Type} (x0 : List Int) (mk : List Int → Int → Int → S) (R : Rd β) (K : S → Option ρ) (G : β → List Int → Option ρ → Prop) (B : Int → Option ρ → Prop) : Prop :=
 (∀ p : Nat, p ≤ x0.length → match R (x0.drop p) with | .ok y q => G y q (K (mk x0 p 0)) | .er e _ => B e (K (mk x0 p 0))) ∧ (∀ (a : Int) (e : Int), e ≠ 0 → B e (K (mk x0 a e)))
def GR {S α : Type} (x0 : List Int) (mk : List Int → Int → Int → S) (y : α) (q : List Int) (o : Option (α × S)) : Prop := ∃ a : Nat, a ≤ x0.length ∧ x0.drop a = q ∧ o = some (y, mk x0 a 0)
def BR {S α : Type} (x0 : List Int) (mk : List Int → Int → Int → S) (e : Int) (o : Option (α × S)) : Prop := ∃ (y : α) (a : Int), o = some (y, mk x0 a e)
abbrev agW {S α : Type} (x0 : List Int) (mk : List Int → Int → Int → S) (R : Rd α) (F : S → Option (α × S)) : Prop := Aft x0 mk R F (GR x0 mk) (BR x0 mk)
theorem afm {e : Int} (h : e ≠ 0) : (e != 0) = true := by simpa using h
def tZ : Rd Bool := bJ (pY 2) fun n => eJ (n == 1)
end Md
end PX
set_option linter.unusedVariables false
set_option linter.unusedSimpArgs false
namespace PX
open Go
namespace Md
def anF {α : Type} (e : Int) (x : α) : Rd α := if h : e = 0 then eJ x else uA e h
def aeg : Rd aB := bJ (iU 16) fun k => bJ (iU 160) fun v => eJ ⟨k, v⟩
def zZ {β : Type} (k : aE → Rd β) : Rd β :=
 bJ (iU 64) fun t => bJ (iU 256) fun p => bJ eR fun l => bJ tZ fun r => bJ eR fun pr => bJ eR fun ex => bJ (iU 16) fun f => bJ eR fun s => bJ (iH 8) fun n => bJ (nC aeg n.toNat) fun ps => k ⟨t, p, l, r, pr, ex, f, s, ps⟩
def wJ : Rd aE := zZ eJ
def age : Rd aE := zZ fun m => anF (iC m) m
def GT {α : Type} (x0 : List Int) (y : α) (q : List Int) (o : Option (α × Int × Int)) : Prop := ∃ a : Nat, a ≤ x0.length ∧ x0.drop a = q ∧ o = some (y, (a : Int), 0)
def BT {α : Type} (z : α) (e : Int) (o : Option (α × Int × Int)) : Prop := o = some (z, 0, e)
end Md
end PX
set_option linter.unusedVariables false
set_option linter.unusedSimpArgs false
namespace PX
open Go
namespace Md
def adn : Rd aG := bJ (iU 88) fun f => bJ eR fun l => bJ tZ fun n => eJ ⟨f, l, n⟩
def aiG (b : Bool) : Rd aW := cond b (bJ eR fun d => bJ age fun m => eJ ⟨true, d, m⟩) (eJ ⟨false, 0, zeroM⟩)
end Md
end PX
set_option linter.unusedVariables false
set_option linter.unusedSimpArgs false
namespace PX
open Go
namespace Md
end Md
end PX
set_option linter.unusedVariables false
set_option linter.unusedSimpArgs false
namespace PX
open Go
namespace Md
end Md
end PX
set_option linter.unusedVariables false
set_option linter.unusedSimpArgs false
namespace PX
open Go
namespace Md
def lf (f : Str) (x : aG) : Bool := Op.bytesLess x.Filter f
def gf (f : Str) (x : aG) : Bool := Op.bytesLess f x.Filter
structure Cut (l : List aG) (f : Str) (A M B : List aG) : Prop where
 eq : l = A ++ (M ++ B)
 lo : ∀ x ∈ A, lf f x = true
 hi : ∀ x ∈ B, gf f x = true
 mid : M = [] ∨ ∃ x, M = [x] ∧ x.Filter = f
end Md
end PX
set_option linter.unusedVariables false
set_option linter.unusedSimpArgs false
namespace PX
open Go
namespace Md
end Md
end PX
set_option linter.unusedVariables false
set_option linter.unusedSimpArgs false
namespace PX
open Go
namespace Md
end Md
end PX
set_option linter.unusedVariables false
set_option linter.unusedSimpArgs false
namespace PX
open Go
namespace Md
structure MsgD (m : aE) : Prop where
 t : m.Topic.length ≤ 64
 p : m.Payload.length ≤ 256
 l : i64 m.Level
 pr : i64 m.Priority
 ex : i64 m.Expires
 f : m.From.length ≤ 16
 sq : i64 m.Seq
 n : m.Props.length ≤ 8
 ps : ∀ x ∈ m.Props, x.Key.length ≤ 16 ∧ x.Value.length ≤ 160
theorem dS {x : Int} (h : i64 x) : okI .i64 x := qD h.1 h.2
def SubD (x : aG) : Prop := x.Filter.length ≤ 88 ∧ i64 x.Level
def ak8 (w : aW) : Prop := (w.Set = true → i64 w.Delay ∧ MsgD w.Message ∧ iC w.Message = 0) ∧ (w.Set = false → w = ⟨false, 0, zeroM⟩)
end Md
end PX
set_option linter.unusedVariables false
set_option linter.unusedSimpArgs false
namespace PX
open Go
namespace Md
theorem amy {l : List Int} (g : D.okL [.sl [.int .u8]] ([D.sl [.int .u8] (List.map (aJ .u8) l)])) : byt l := fun x hx => by
 have h : okL (okI .u8) l := uI (fun x (h : D.okL [.int .u8] ((aJ .u8) x)) => h.1.2) g.1
 have := h.2 x hx
 simp only [okI, Go.Lit.wf, Go.IntKind.min, Go.IntKind.max, Go.IntKind.signed, Go.IntKind.bits, Bool.and_eq_true, decide_eq_true_eq] at this
 revert this
 simp
 omega
theorem aq6 (n : Nat) : ∀ (k : Nat) (x : Int), 0 ≤ x → x < 128 ^ k → byt (gO k x) := fun k => by
 induction k with
 | zero => intro x h0 h1 y hy; cases hy
 | succ k ih =>
  intro x h0 h1 y hy
  rw [gO] at hy
  by_cases c : x ≥ 128
  ·rw [if_pos c] at hy
   rcases List.mem_cons.1 hy with rfl | hy
   ·omega
   ·refine ih (x / 128) (by omega) ?_ y hy
    rw [Int.pow_succ] at h1
    exact Int.ediv_lt_of_lt_mul (by omega) h1
  ·rw [if_neg c] at hy
   rcases List.mem_cons.1 hy with rfl | hy
   ·omega
   ·cases hy
theorem cM {a b : List Int} (h1 : byt a) (h2 : byt b) : byt (a ++ b) := fun x hx => (List.mem_append.1 hx).elim (h1 x) (h2 x)
theorem fB {x : Int} (h : i64 x) : byt (cD x) := by
 obtain ⟨z0, z1⟩ := vY h.1 h.2
 exact aq6 0 10 _ z0 (by omega)
end Md
end PX
set_option linter.unusedVariables false
set_option linter.unusedSimpArgs false
namespace PX
open Go
namespace Md
structure aaS (p : aA) : Prop where
 k : rngB 1 14 p.Kind = true
 id : i64 p.ID
 code : i64 p.Code
 keep : i64 p.Keep
 exp : i64 p.Expiry
 win : i64 p.Window
 del : i64 p.Will.Delay
 cl : p.Kind = 1 → p.Client.length ≤ 16 ∧ p.User.length ≤ 16 ∧ (p.Will.Set = true → MsgD p.Will.Message)
 wl : p.Kind = 1 → p.Will.Set = false → p.Will.Delay = 0 ∧ p.Will.Message = zeroM
 ms : p.Kind = 3 → MsgD p.Message
 sb : p.Kind = 8 → p.Subs.length ≤ 32 ∧ ∀ x ∈ p.Subs, SubD x
 fl : p.Kind = 10 → p.Filters.length ≤ 32 ∧ ∀ s ∈ p.Filters, s.length ≤ 88
 cd : p.Kind = 9 ∨ p.Kind = 11 → p.Codes.length ≤ 32 ∧ ∀ x ∈ p.Codes, i64 x
 us : p = usedP p
def ad1 (p : aA) : List Int := fJ p.Client ++ (fJ p.User ++ (cD (gA p.Clean + 2 * gA p.Will.Set) ++ (cD p.Keep ++ (cD p.Expiry ++ (cD p.Window ++ tO p.Will)))))
def aaz (p : aA) : List Int :=
 cond (p.Kind == 1) (ad1 p) (cond (p.Kind == 2) (cD (gA p.Present) ++ cD p.Code) (cond (p.Kind == 14) (cD p.Code) (cond (p.Kind == 12) [] (cond (p.Kind == 13) [] (cD p.ID ++
  cond (p.Kind == 3) (cD (gA p.Dup) ++ nH p.Message) (cond (p.Kind == 10) (mT fJ p.Filters) (cond (p.Kind == 8) (mT tW p.Subs) (cond (p.Kind == 9) (mT cD p.Codes) (cond (p.Kind == 11) (mT cD p.Codes) [])))))))))
def aaH (p : aA) : List Int := cD p.Kind ++ aaz p
end Md
end PX
set_option linter.unusedVariables false
set_option linter.unusedSimpArgs false
namespace PX
open Go
namespace Md
theorem aoi {b : List Int} {x : Int} (h : i64 x) (hb : b.length ≤ 90000000000000) : iF b x = some (b ++ cD x) := aia b (dS h) hb
theorem vM {n : Nat} (h : n ≤ 1000000) : i64 (n : Int) := ⟨by omega, by omega⟩
def sM (p : aA) : List Int × Int := cond (nO p != 0) ([], nO p) (aaH p, 0)
end Md
end PX
set_option linter.unusedVariables false
set_option linter.unusedSimpArgs false
namespace PX
open Go
namespace Md
end Md
end PX
set_option linter.unusedVariables false
set_option linter.unusedSimpArgs false
namespace PX
open Go
namespace Md
def uM {ρ β : Type} (x0 : List Int) (R : Rd β) (K : aC → Option ρ) (G : β → List Int → Option ρ → Prop) (B : Int → Option ρ → Prop) : Prop :=
 ∀ p : Nat, p ≤ x0.length → match R (x0.drop p) with | .ok y q => G y q (K ⟨x0, p⟩) | .er e _ => B e (K ⟨x0, p⟩)
def GP {α : Type} (x0 : List Int) (y : α) (q : List Int) (o : Option (aH ⊕ (α × aC))) : Prop := ∃ a : Nat, a ≤ x0.length ∧ x0.drop a = q ∧ o = some (.inr (y, ⟨x0, a⟩))
def BP {α : Type} (e : Int) (o : Option (aH ⊕ (α × aC))) : Prop := o = some (.inl ⟨e⟩)
abbrev kS {α : Type} (x0 : List Int) (R : Rd α) (F : aC → Option (aH ⊕ (α × aC))) : Prop := uM x0 R F (GP x0) BP
end Md
end PX
set_option linter.unusedVariables false
set_option linter.unusedSimpArgs false
namespace PX
open Go
namespace Md
def fl0 (x : Int) : Bool := (bP .and .i64 (shr .i64 x 0) 1) == 1
def fl1 (x : Int) : Bool := (bP .and .i64 (shr .i64 x 1) 1) == 1
abbrev pk (k i : Int) (d : Bool) (m : aE) (pr : Bool) (co : Int) (s : List aG) (f : List Str) (c : List Int) : aA :=
 aA.mk k i d m ([] : Str) ([] : Str) false 0 0 0 (aW.mk false 0 zeroM) pr co s f c
abbrev ajt (c u : Str) (cl : Bool) (k e w : Int) (s : Bool) (d : Int) (m : aE) : aA :=
 aA.mk 1 0 false zeroM c u cl k e w (aW.mk s d m) false 0 ([] : List aG) ([] : List Str) ([] : List Int)
def aee : Rd aA := bJ (iU 16) fun c => bJ (iU 16) fun u => bJ (pY 4) fun f => bJ eR fun k => bJ eR fun e => bJ eR fun w =>
 cond (fl1 f) (bJ eR fun d => bJ wJ fun m => eJ (ajt c u (fl0 f) k e w (fl1 f) d m)) (eJ (ajt c u (fl0 f) k e w (fl1 f) 0 zeroM))
def abQ (k : Int) : Rd aA :=
 cond (k == 1) aee (cond (k == 2) (bJ tZ fun f => bJ eR fun c => eJ (pk k 0 false zeroM f c [] [] []))
 (cond (k == 3) (bJ eR fun i => bJ tZ fun d => bJ wJ fun m => eJ (pk k i d m false 0 [] [] []))
 (cond (k == 4 || (k == 5 || (k == 6 || k == 7))) (bJ eR fun i => eJ (pk k i false zeroM false 0 [] [] []))
 (cond (k == 8) (bJ eR fun i => bJ (rA 32 adn) fun l => eJ (pk 8 i false zeroM false 0 l [] []))
 (cond (k == 9 || k == 11) (bJ eR fun i => bJ (rA 32 eR) fun l => eJ (pk k i false zeroM false 0 [] [] l))
 (cond (k == 10) (bJ eR fun i => bJ (rA 32 (iU 88)) fun l => eJ (pk 10 i false zeroM false 0 [] l []))
 (cond (k == 14) (bJ eR fun c => eJ (pk k 0 false zeroM false c [] [] []))
 (eJ (pk k 0 false zeroM false 0 [] [] [])))))))))
end Md
end PX
set_option linter.unusedVariables false
set_option linter.unusedSimpArgs false
namespace PX
open Go
namespace Md
abbrev j5 : aA := pk 0 0 false zeroM false 0 [] [] []
def abz : Rd aA := bJ eR fun k => if rngB 1 14 k = true then abQ k else uA 10 (by decide)
def alP (y : aA) (q : List Int) : aA × Int := if q = [] then (if nO y = 0 then (y, 0) else (j5, nO y)) else (j5, 2)
def yM (x0 : List Int) : aA × Int := if x0.length > 4096 then (j5, 5) else match abz x0 with | .ok y q => alP y q | .er e _ => (j5, e)
def GD (y : aA) (q : List Int) (o : Option (aA × Int)) : Prop := y.good → o = some (alP y q)
def BD (e : Int) (o : Option (aA × Int)) : Prop := o = some (j5, e)
theorem aiz {x0 : List Int} {p : Nat} (hp : p ≤ x0.length) : (x0.drop p = []) ↔ p = x0.length := by
 rw [List.drop_eq_nil_iff]; omega
end Md
end PX
set_option linter.unusedVariables false
set_option linter.unusedSimpArgs false
namespace PX
open Go
namespace Md
def Has {α : Type} (r : Rd α) (D : α → Prop) : Prop := ∀ l x q, byt l → r l = .ok x q → D x ∧ byt q
end Md
end PX
set_option linter.unusedVariables false
set_option linter.unusedSimpArgs false
namespace PX
open Go
namespace Md
def xL : Nat → List Int → List aA → List aA × Int
 | 0, _, w => (w, 0)
 | n + 1, [], w => (w, 0)
 | n + 1, l, w => match iU 4096 l with
  | .er e _ => ([], e)
  | .ok s q => if (yM (ofStr s)).2 = 0 then xL n q (w ++ [(yM (ofStr s)).1]) else ([], (yM (ofStr s)).2)
end Md
end PX
set_option linter.unusedVariables false
set_option linter.unusedSimpArgs false
namespace PX
open Go
namespace Md
def Btn {α : Type} (r : Rd α) (b : List Int) (x : α) : Prop := eG r b x ∧ lH r b
def alI (p : aA) : aA :=
 cond (p.Kind == 1) (ajt p.Client p.User p.Clean p.Keep p.Expiry p.Window p.Will.Set p.Will.Delay p.Will.Message) (cond (p.Kind == 2) (pk p.Kind 0 false zeroM p.Present p.Code [] [] [])
  (cond (p.Kind == 3) (pk p.Kind p.ID p.Dup p.Message false 0 [] [] []) (cond (p.Kind == 4 || (p.Kind == 5 || (p.Kind == 6 || p.Kind == 7))) (pk p.Kind p.ID false zeroM false 0 [] [] [])
  (cond (p.Kind == 8) (pk 8 p.ID false zeroM false 0 p.Subs [] []) (cond (p.Kind == 9 || p.Kind == 11) (pk p.Kind p.ID false zeroM false 0 [] [] p.Codes) (cond (p.Kind == 10) (pk 10 p.ID false zeroM false 0 [] p.Filters [])
  (cond (p.Kind == 14) (pk p.Kind 0 false zeroM false p.Code [] [] []) (pk p.Kind 0 false zeroM false 0 [] [] []))))))))
end Md
end PX
set_option linter.unusedVariables false
set_option linter.unusedSimpArgs false
namespace PX
open Go
namespace Md
theorem aoB (x : Int) : IntKind.wrap .u32 x = x % 4294967296 := by
 simp only [IntKind.wrap, IntKind.signed, IntKind.bits]; simp
theorem arJ {a b : Nat} (ha : a < 2 ^ 32) (hb : b < 2 ^ 32) : bP .xor .u32 (a : Int) (b : Int) = ((a ^^^ b : Nat) : Int) := by
 have hx := Nat.xor_lt_two_pow ha hb
 unfold bP
 simp only
 rw [aoB, BitVec.toNat_xor, BitVec.toNat_ofInt, BitVec.toNat_ofInt]
 show (((((a : Int) % (2 ^ 32 : Nat)).toNat ^^^ ((b : Int) % (2 ^ 32 : Nat)).toNat) : Nat) : Int) % _ = _
 rw [show ((a : Int) % (2 ^ 32 : Nat)).toNat = a by omega, show ((b : Int) % (2 ^ 32 : Nat)).toNat = b by omega]
 omega
theorem art {a b : Nat} (ha : a < 2 ^ 32) (hb : b < 2 ^ 32) : bP .xor .u64 (a : Int) (b : Int) = ((a ^^^ b : Nat) : Int) := by
 have hx := Nat.xor_lt_two_pow ha hb
 unfold bP
 simp only
 rw [lP, BitVec.toNat_xor, BitVec.toNat_ofInt, BitVec.toNat_ofInt]
 show (((((a : Int) % (2 ^ 64 : Nat)).toNat ^^^ ((b : Int) % (2 ^ 64 : Nat)).toNat) : Nat) : Int) % _ = _
 rw [show ((a : Int) % (2 ^ 64 : Nat)).toNat = a by omega, show ((b : Int) % (2 ^ 64 : Nat)).toNat = b by omega]
 omega
def afn (h b : Nat) : Nat := ((h ^^^ b) * 16777619) % 4294967296
def fnv : Nat → List Int → Nat
 | h, [] => h
 | h, x :: r => fnv (afn h x.toNat) r
theorem agZ (h b : Nat) : afn h b < 4294967296 := Nat.mod_lt _ (by decide)
theorem am4 : ∀ {l : List Int} {h : Nat}, h < 4294967296 → fnv h l < 4294967296
 | [], h, hh => hh
 | x :: r, h, _ => am4 (l := r) (agZ _ _)
theorem ajx (h n : Nat) (x : Int) (r : List Int) (e : x = (n : Int)) : fnv h (x :: r) = fnv (afn h n) r := by subst e; rfl
theorem amD {l : List Int} (hb : byt l) (hl : l.length ≤ 1000000000) : tD l = some ((fnv 2166136261 l : Nat) : Int) := by
 unfold tD
 refine oE (l := l) (F := fun fu i (h : Nat) => mC fu (h : Int) l (l.length : Int) i) (g := fun r h => some ((fnv h r : Nat) : Int)) (fun _ h => h < 4294967296)
  (fun fu h hh => ?_) (fun fu i h hi h2 ih => ?_) (by omega) 2166136261 (by decide)
 ·have e : IntKind.wrap .i64 (h : Int) = (h : Int) := by rw [IntKind.wrap_i64]; omega
  rw [mC, aR (by simp), e, fnv]
 ·have hx := hb _ (List.getElem_mem hi)
  obtain ⟨n, hn⟩ := Int.eq_ofNat_of_zero_le hx.1
  have e1 : IntKind.wrap .u32 (l[i]) = (n : Int) := by rw [aoB, hn]; omega
  have e2 : IntKind.wrap .u32 (bP .xor .u32 (h : Int) (n : Int) * 16777619) = ((afn h n : Nat) : Int) := by
   rw [arJ h2 (by omega), aoB]
   unfold afn
   omega
  rw [mC, aN (oG hi), aN (inr hi), dO hi, e1, e2, cZ (by omega), ih _ (agZ _ _), ajx h n _ _ hn]
theorem apj {l : List Int} (hb : byt l) (hl : l.length ≤ 1000000000) : mM l = some ((fnv 2166136261 l : Nat) : Int) := by
 unfold mM
 refine oE (l := l) (F := fun fu i (h : Nat) => gF fu l (h : Int) i) (g := fun r h => some ((fnv h r : Nat) : Int)) (fun _ h => h < 4294967296)
  (fun fu h hh => ?_) (fun fu i h hi h2 ih => ?_) (by omega) 2166136261 (by decide)
 ·have e : IntKind.wrap .i64 (h : Int) = (h : Int) := by rw [IntKind.wrap_i64]; omega
  rw [gF, aR (by simp), e, fnv]
 ·have hx := hb _ (List.getElem_mem hi)
  obtain ⟨n, hn⟩ := Int.eq_ofNat_of_zero_le hx.1
  have e1 : IntKind.wrap .u64 (l[i]) = (n : Int) := by rw [lP, hn]; omega
  have hxl := Nat.xor_lt_two_pow (n := 32) h2 (show n < 2 ^ 32 by omega)
  have e2 : Int.tmod (IntKind.wrap .u64 (bP .xor .u64 (h : Int) (n : Int) * 16777619)) 4294967296 = ((afn h n : Nat) : Int) := by
   rw [art h2 (by omega), lP]
   unfold afn
   rw [Int.tmod_eq_emod_of_nonneg (by omega)]
   omega
  rw [gF, aN (oG hi), aN (inr hi), dO hi, e1, e2, cZ (by omega), ih _ (agZ _ _), ajx h n _ _ hn]
def xF (l : List Int) : Nat := fnv 2166136261 l
theorem ab5 (l : List Int) : xF l < 4294967296 := am4 (by decide)
def oH (s : Nat) : List Int := [((s / 16777216 : Nat) : Int), ((s / 65536 % 256 : Nat) : Int), ((s / 256 % 256 : Nat) : Int), ((s % 256 : Nat) : Int)]
def ags (l : List Int) : List Int := cD (l.length : Int) ++ (oH (xF l) ++ l)
def acf (l : List Int) : List Int := if l.length > 65536 then [] else ags l
theorem ao6 (s : Nat) : shr .i64 (s : Int) 24 = ((s / 16777216 : Nat) : Int) := by
 unfold shr
 rw [show (2 : Int) ^ (min (24 : Int).toNat IntKind.i64.bits) = 16777216 by decide, Int.fdiv_eq_ediv_of_nonneg _ (by omega)]
 omega
theorem aoX (s : Nat) : shr .i64 (s : Int) 16 = ((s / 65536 : Nat) : Int) := by
 unfold shr
 rw [show (2 : Int) ^ (min (16 : Int).toNat IntKind.i64.bits) = 65536 by decide, Int.fdiv_eq_ediv_of_nonneg _ (by omega)]
 omega
theorem ap8 (s : Nat) : shr .i64 (s : Int) 8 = ((s / 256 : Nat) : Int) := by
 unfold shr
 rw [show (2 : Int) ^ (min (8 : Int).toNat IntKind.i64.bits) = 256 by decide, Int.fdiv_eq_ediv_of_nonneg _ (by omega)]
 omega
theorem ajn (s : Nat) (h : s < 4294967296) : bP .and .i64 (s : Int) 255 = ((s % 256 : Nat) : Int) := by
 unfold bP
 simp only
 rw [IntKind.wrap_i64, BitVec.toNat_and, BitVec.toNat_ofInt, BitVec.toNat_ofInt]
 rw [show ((255 : Int) % (2 ^ IntKind.i64.bits : Nat)).toNat = 2 ^ 8 - 1 by decide, Nat.and_two_pow_sub_one_eq_mod]
 show ((((((s : Int) % (2 ^ 64 : Nat)).toNat % 2 ^ 8 : Nat) : Int) + _) % _) - _ = _
 omega
end Md
end PX
