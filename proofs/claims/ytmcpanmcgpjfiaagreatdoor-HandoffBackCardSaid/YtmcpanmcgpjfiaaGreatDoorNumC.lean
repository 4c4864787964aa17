import Derived.Test.YtmcpanmcgpjfiaaGreatDoorNumB
import Derived.Test.YtmcpanmcgpjfiaaGreatDoorSessB
set_option linter.unusedVariables false
set_option linter.unusedSimpArgs false
namespace PX
open Go
namespace Md
theorem yE {s : Str} (h : gS s = true) : s.length ≤ 16 := by
 unfold gS at h
 simp only [Bool.and_eq_true, decide_eq_true_eq] at h
 exact h.1.1.2
theorem aaT {s : Str} (h : sizedB s = true) : s.length ≤ 64 := by
 unfold sizedB at h
 simp only [Bool.and_eq_true, decide_eq_true_eq] at h
 exact h.1.1.2
theorem ar6 {s : Str} (h : vP s = true) : s.length ≤ 1000 := by
 unfold vP at h
 rw [Bool.or_eq_true] at h
 rcases h with h | h
 ·unfold vL at h
  split at h
  ·split at h
   ·cases h
   ·split at h
    ·rename_i h3
     rw [Bool.and_eq_true, Bool.and_eq_true] at h3
     have a := yE h3.1.1
     have b : sizedB ((s.drop 7).drop ((Lib.indexByte (s.drop 7) 47).toNat + 1)) = true := by
      have := h3.1.2
      unfold qN at this
      rw [Bool.and_eq_true] at this
      exact this.1
     have b := aaT b
     simp only [List.length_take, List.length_drop] at a b
     omega
    ·cases h
  ·cases h
 ·rw [Bool.and_eq_true] at h
  have := h.1
  unfold qN at this
  rw [Bool.and_eq_true] at this
  have := aaT this.1
  omega
theorem akA : ∀ {l : List aG} {p : Option Str}, wR p l = 0 → ∀ x ∈ l, x.Key.length ≤ 100000 ∧ x.Value.length ≤ 100000
 | [], _, _, _, h => by cases h
 | y :: r, p, h, x, hx => by
  rw [wR] at h
  have k1 : aer y.Key = true := by
   cases e : aer y.Key with
   | true => rfl
   | false => rw [e] at h; cases h
  have h := cz1 h (by decide)
  have k2 : y.Value.length ≤ 160 := by
   by_cases c : 160 < y.Value.length
   ·rw [aL (by simpa using c)] at h; cases h
   ·omega
  have h := cz2 (cz2 h (by decide)) (by decide)
  rcases List.mem_cons.1 hx with rfl | hx
  ·unfold aer at k1
   rw [Bool.and_eq_true] at k1
   have := k1.1
   unfold fE at this
   simp only [Bool.and_eq_true, decide_eq_true_eq] at this
   omega
  ·exact akA h x hx
theorem ak2 {m : aC} (h : checkM m = 0) (g : m.good) : Brief m := by
 have hn := yZ h
 unfold checkM at h
 have k1 : yT m.Topic = true := by
  cases e : yT m.Topic with
  | true => rfl
  | false => rw [e] at h; cases h
 have h := cz1 h (by decide)
 have k2 : m.Payload.length ≤ 256 := by
  by_cases c : 256 < (m.Payload.length : Int)
  ·rw [aL (by simpa using c)] at h; cases h
  ·omega
 have h := cz2 h (by decide)
 have h := cz1 (cz1 (cz1 h (by decide)) (by decide)) (by decide)
 have k3 : m.From.length ≤ 16 ∧ wV m.Props = 0 := by
  cases e : m.From == [] with
  | true =>
   rw [e] at h
   have : m.From = [] := by simpa using e
   rw [this]
   exact ⟨by simp, cz1 h (by decide)⟩
  | false =>
   rw [e, eW] at h
   have kf : gS m.From = true := by
    cases e : gS m.From with
    | true => rfl
    | false => rw [e] at h; cases h
   have h := cz1 h (by decide)
   exact ⟨yE kf, cz1 h (by decide)⟩
 have k4 : sizedB m.Topic = true := by
  unfold yT at k1
  rw [Bool.and_eq_true, Bool.and_eq_true] at k1
  exact k1.1.1
 have k4 := aaT k4
 have k5 : wR none m.Props = 0 := by
  have := k3.2
  unfold wV at this
  exact cz2 this (by decide)
 exact ⟨by omega, by omega, by have := k3.1; omega, by omega, akA k5, g⟩
def yM (b : Bool) : Int := if b then 1 else 0
def zB (x : aK) : List Int := gQ x.Filter ++ (cO x.Level ++ cO (yM x.NoLocal))
def j4 (x : aE) : List Int := cO x.ID ++ (cO x.State ++ pL x.Message)
theorem ary (b : Bool) : xG b = some (yM b) := by cases b <;> rfl
theorem ajU (b : Bool) : okI .i64 (yM b) := auq b
structure agy (s : aI) : Prop where
 g : s.good
 c : s.Client.length ≤ 1000
 u : s.User.length ≤ 1000
 sn : s.Subs.length ≤ 1000
 sk : ∀ x ∈ s.Subs, x.Filter.length ≤ 1000
 qn : s.Queue.length ≤ 1000
 qk : ∀ m ∈ s.Queue, Brief m
 iN : s.Out.Items.length ≤ 1000
 ik : ∀ f ∈ s.Out.Items, Brief f.Message
 us : s.Out.Pool.Used.length ≤ 1000
 ids : s.In.IDs.length ≤ 1000
 wl : s.Will.Set = true → Brief s.Will.Message
theorem ale {α : Type} (f : α → List Int) (n : Nat) : ∀ {l : List α}, (∀ x ∈ l, (f x).length ≤ n) → (l.flatMap f).length ≤ l.length * n
 | [], _ => by simp
 | x :: r, h => by
  have h1 := h x (by simp)
  have ih := ale f n (l := r) fun y hy => h y (by simp [hy])
  rw [List.flatMap_cons, List.length_append, List.length_cons, Nat.succ_mul]
  omega
theorem abl {α : Type} {l : List α} {F : Nat → Int → List Int → Option (List Int)} {f : α → List Int} (P : α → Prop) (hP : ∀ x ∈ l, P x) (hl : l.length ≤ 1000) (hf : ∀ x, P x → (f x).length ≤ 40000000)
  (h0 : ∀ fu w, F (fu + 1) (l.length : Int) w = some w)
  (h1 : ∀ fu i w (hi : i < l.length), P l[i] → w.length ≤ 800000000000 → F (fu + 1) (i : Int) w = F fu ((i + 1 : Nat) : Int) (w ++ f l[i])) (b : List Int) (hb : b.length ≤ 600000000000) :
  F fuel 0 b = some (b ++ l.flatMap f) := by
 refine uT (l := l) (F := F) (g := fun r w => some (w ++ r.flatMap f)) (fun i w => w.length ≤ 600000000000 + i * 40000000) (fun fu w _ => by rw [h0]; simp) (fun fu i w hi hw ih => ?_) (by omega) b (by omega)
 have hp := hP _ (List.getElem_mem hi)
 have := hf _ hp
 rw [h1 fu i w hi hp (by omega), ih _ (by simp only [List.length_append]; omega)]
 simp [-List.getElem_cons_drop]
end Md
end PX
