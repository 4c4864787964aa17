import Derived.Test.YthgmhhgmnegocaaGreatDoorRdF
import Derived.Test.YthgmhhgmnegocaaGreatDoorNumE
set_option linter.unusedVariables false
set_option linter.unusedSimpArgs false
namespace PX
open Go
namespace Md
structure MsgD (m : aF) : Prop where
 t : m.Topic.length ≤ 64
 p : m.Payload.length ≤ 256
 l : i64 m.Level
 pr : i64 m.Priority
 ex : i64 m.Expires
 f : m.From.length ≤ 16
 sq : i64 m.Seq
 n : m.Props.length ≤ 8
 ps : ∀ x ∈ m.Props, x.Key.length ≤ 16 ∧ x.Value.length ≤ 160
theorem fH {x : Int} (h : i64 x) : okI .i64 x := sZ h.1 h.2
theorem afd : tL yD (fun b => cV (fS b)) (fun _ => True) := fun l b q hb h => by
 obtain ⟨n, m, h1, h2⟩ := dT h
 obtain ⟨⟨a, c, _⟩, e⟩ := ak9 2 l n m hb h1
 injection h2 with h2 h3
 subst h2 h3
 refine ⟨trivial, ?_⟩
 rw [e]
 have : n = 0 ∨ n = 1 := by omega
 rcases this with rfl | rfl <;> rfl
theorem atG : tL afa (fun x => fL x.Key ++ fL x.Value) (fun x => x.Key.length ≤ 16 ∧ x.Value.length ≤ 160) := fun l x q hb h => by
 obtain ⟨k, l1, h1, g1⟩ := dT h
 obtain ⟨d1, e1⟩ := mB 16 l k l1 hb h1
 subst e1
 obtain ⟨v, l2, h2, g2⟩ := dT g1
 obtain ⟨d2, e2⟩ := mB 160 l1 v l2 (fW hb) h2
 subst e2
 injection g2 with h h'
 subst h h'
 dsimp only at *
 exact ⟨⟨by omega, by omega⟩, by simp⟩
theorem akv : tL zW rD MsgD := fun l x q hb h => by
 unfold zW ac0 at h
 obtain ⟨t, l1, h1, g1⟩ := dT h
 obtain ⟨d1, e1⟩ := mB 64 l t l1 hb h1
 subst e1
 have hb := fW hb
 obtain ⟨p, l2, h2, g2⟩ := dT g1
 obtain ⟨d2, e2⟩ := mB 256 l1 p l2 hb h2
 subst e2
 have hb := fW hb
 obtain ⟨lv, l3, h3, g3⟩ := dT g2
 obtain ⟨d3, e3⟩ := pS l2 lv l3 hb h3
 subst e3
 have hb := fW hb
 obtain ⟨rt, l4, h4, g4⟩ := dT g3
 obtain ⟨d4, e4⟩ := afd l3 rt l4 hb h4
 subst e4
 have hb := fW hb
 obtain ⟨pr, l5, h5, g5⟩ := dT g4
 obtain ⟨d5, e5⟩ := pS l4 pr l5 hb h5
 subst e5
 have hb := fW hb
 obtain ⟨ex, l6, h6, g6⟩ := dT g5
 obtain ⟨d6, e6⟩ := pS l5 ex l6 hb h6
 subst e6
 have hb := fW hb
 obtain ⟨fr, l7, h7, g7⟩ := dT g6
 obtain ⟨d7, e7⟩ := mB 16 l6 fr l7 hb h7
 subst e7
 have hb := fW hb
 obtain ⟨sq, l8, h8, g8⟩ := dT g7
 obtain ⟨d8, e8⟩ := pS l7 sq l8 hb h8
 subst e8
 have hb := fW hb
 obtain ⟨n, l9, h9, g9⟩ := dT g8
 obtain ⟨d9, e9⟩ := aha 8 l8 n l9 hb h9
 subst e9
 have hb := fW hb
 obtain ⟨ps, l10, h10, g10⟩ := dT g9
 obtain ⟨d10, e10⟩ := aim atG _ l9 ps l10 hb h10
 subst e10
 have hb := fW hb
 injection g10 with h h'
 subst h h'
 obtain ⟨k1, k2, _⟩ := d9
 obtain ⟨k3, k4⟩ := d10
 have en : ((ps.length : Nat) : Int) = n := by omega
 refine ⟨⟨by dsimp only; omega, by dsimp only; omega, d3, d5, d6, by dsimp only; omega, d8, by dsimp only; omega, k4⟩, ?_⟩
 unfold rD lJ
 dsimp only
 rw [en]
 simp only [List.append_assoc]
 rfl
def SubD (x : aH) : Prop := x.Filter.length ≤ 88 ∧ i64 x.Level
theorem auY : tL adw xT SubD := fun l x q hb h => by
 unfold adw at h
 obtain ⟨f, l1, h1, g1⟩ := dT h
 obtain ⟨d1, e1⟩ := mB 88 l f l1 hb h1
 subst e1
 have hb := fW hb
 obtain ⟨lv, l2, h2, g2⟩ := dT g1
 obtain ⟨d2, e2⟩ := pS l1 lv l2 hb h2
 subst e2
 have hb := fW hb
 obtain ⟨nl, l3, h3, g3⟩ := dT g2
 obtain ⟨d3, e3⟩ := afd l2 nl l3 hb h3
 subst e3
 have hb := fW hb
 injection g3 with h h'
 subst h h'
 exact ⟨⟨by dsimp only; omega, d2⟩, by simp [xT]⟩
def ar4 (w : aV) : Prop := (w.Set = true → i64 w.Delay ∧ MsgD w.Message ∧ j5 w.Message = 0) ∧ (w.Set = false → w = ⟨false, 0, zeroM⟩)
end Md
end PX
