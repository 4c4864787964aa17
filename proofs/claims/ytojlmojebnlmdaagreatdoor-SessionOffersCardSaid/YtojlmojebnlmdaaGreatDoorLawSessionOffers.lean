import Derived.Test.YtojlmojebnlmdaaGreatDoorSessC
set_option linter.unusedVariables false
set_option linter.unusedSimpArgs false
namespace PX
open Go
namespace Md
def aef (x : Int) : Int := if 256 < x then 256 else x
def adE (s : aC) (m : aA) (x y : Int) : aC × Bool :=
 (aeC (aC.mk s.Client s.User s.Online s.Conn s.Expiry s.Until s.Dropped s.Subs (nF s.Queue m (aef x) y).1 s.Out s.In s.Will) ((nF s.Queue m (aef x) y).2.1.length : Int), (nF s.Queue m (aef x) y).2.2 && s.Online)
def abt (s : aC) (m : aA) (x y : Int) : aC × Bool :=
 cond (!s.Online) (cond (m.Level == 0) (aeC s 1, false) (adE s m x y)) (adE s m x y)
theorem anw (s : aC) (m : aA) (h : rE s) (hm : m.Props.length ≤ 1000) (x y : Int) : l3 s m x y = some (abt s m x y) := by
 unfold l3 m0 abt adE
 rw [alL s h]
 simp only [dC, drop_eq, ao5 (aiV h) (show okM m by unfold okM; omega)]
 unfold aef
 cases s.Online <;> cases m.Level == 0 <;> cases (nF s.Queue m (if 256 < x then 256 else x) y).2.2 <;> rfl
theorem ai0 (s : aC) (m : aA) (h : rE s) (x y : Int) : mD s m x y = some (abt s m x y) := by
 unfold mD j2 j6 abt adE aef
 simp only [dC, ajY, aj1 (aiV h)]
 by_cases c : 256 < x
 ·simp only [if_pos c, show decide (x > 256) = true by simpa using c, j1]
  cases s.Online <;> cases m.Level == 0 <;> cases (nF s.Queue m 256 y).2.2 <;> rfl
 ·simp only [if_neg c, show decide (x > 256) = false by simpa using c, nL]
  cases s.Online <;> cases m.Level == 0 <;> cases (nF s.Queue m x y).2.2 <;> rfl
theorem afa {s : aC} (h : rE s) (n : Int) : rE (aeC s n) := ⟨h.subs, h.queue, h.qp, h.items, h.ip, h.used, h.ids, h.will⟩
theorem ajq {s : aC} {m : aA} (h : rE s) (hq : s.Queue.length ≤ 900) (hm : m.Props.length ≤ 1000) (x y : Int) : rE (abt s m x y).1 := by
 have key : rE (adE s m x y).1 := by
  refine afa (s := aC.mk s.Client s.User s.Online s.Conn s.Expiry s.Until s.Dropped s.Subs (nF s.Queue m (aef x) y).1 s.Out s.In s.Will) ⟨h.subs, ?_, ?_, h.items, h.ip, h.used, h.ids, h.will⟩ _
  ·show (nF s.Queue m (aef x) y).1.length ≤ 1000
   unfold nF
   split
   ·simp; omega
   ·split
    ·exact h.queue
    ·simp; omega
  ·show ∀ z ∈ (nF s.Queue m (aef x) y).1, z.Props.length ≤ 1000
   intro z hz
   unfold nF at hz
   split at hz
   ·simp at hz; rcases hz with hz | rfl; exact h.qp _ hz; exact hm
   ·split at hz
    ·exact h.qp _ hz
    ·simp at hz; rcases hz with hz | rfl; exact h.qp _ (List.mem_of_mem_tail hz); exact hm
 unfold abt
 cases s.Online
 ·cases m.Level == 0
  ·exact key
  ·exact afa h 1
 ·exact key
theorem uX (p0 : aC) (p1 : aA) (p2 : Int) (p3 : Int) (g0 : D.okL aC.ks (aC.enc p0)) (g1 : D.okL aA.ks (aA.enc p1)) (g2 : D.okL [.int .i64] ([D.int .i64 p2])) (g3 : D.okL [.int .i64] ([D.int .i64 p3])) : jZ p0 p1 p2 p3 = some true := by
 have h := aC.fN g0
 have hm := aA.fN g1
 unfold jZ
 rw [ahp _ h, tQ _ (yA hm)]
 simp only [dC, ako]
 by_cases c1 : aeu p0 = 0
 ·rw [bD (by simpa using c1)]
  by_cases c2 : m7 p1 = 0
  ·rw [bD (by simpa using c2)]
   have hl := amS c1
   have hp := uE c2
   have hq := (agS (ae7 c1).2.2.1).1
   unfold iL
   rw [anw _ _ hl (by omega), ai0 _ _ hl]
   simp only [dC, ako, j1]
   rw [ap0 _ (ajq hl (by omega) (by omega) p2 p3)]
   simp only [dC, j1, beq_self_eq_true]
  ·rw [aR (by simpa using c2)]
 ·rw [aR (by simpa using c1)]
end Md
end PX
