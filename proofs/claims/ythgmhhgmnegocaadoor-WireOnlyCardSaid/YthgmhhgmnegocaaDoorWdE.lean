import Derived.Test.YthgmhhgmnegocaaDoorWdD
set_option linter.unusedVariables false
set_option linter.unusedSimpArgs false
namespace PX
open Go
namespace Md
theorem afF {l q : List Int} {lim : Int} (hb : byt l) {s : List UInt8} (h : fJ lim l = .ok s q) : q.length + 1 ≤ l.length := by
 obtain ⟨_, e⟩ := gN lim l s q hb h
 rw [e]
 unfold fL
 have : 0 < (cB (s.length : Int)).length := by
  unfold cB
  rw [hU]
  split <;> simp
 simp only [List.length_append]
 omega
def qX : Nat → List Int → List aA → List aA × Int
 | 0, _, w => (w, 0)
 | n + 1, [], w => (w, 0)
 | n + 1, l, w => match fJ 4096 l with
  | .er e _ => ([], e)
  | .ok s q => if (kF (ofStr s)).2 = 0 then qX n q (w ++ [(kF (ofStr s)).1]) else ([], (kF (ofStr s)).2)
theorem abR {n : Nat} {l : List Int} {w : List aA} (h : l ≠ []) : qX (n + 1) l w = match fJ 4096 l with
  | .er e _ => ([], e)
  | .ok s q => if (kF (ofStr s)).2 = 0 then qX n q (w ++ [(kF (ofStr s)).1]) else ([], (kF (ofStr s)).2) := by
 cases l with
 | nil => exact absurd rfl h
 | cons a r => rfl
theorem aoG {s : List UInt8} (h : (s.length : Int) ≤ 4096) : Buf (ofStr s) := ⟨zD s, by rw [wN]; omega⟩
end Md
end PX
