import Derived.Test.YtmcpanmcgpjfiaaGreatDoorSeatB
set_option linter.unusedVariables false
set_option linter.unusedSimpArgs false
namespace PX
open Go
namespace Md
theorem aEf (ops : List aA) (hops : okL aA.good ops) : ∀ (k i fu : Nat) (l : List aA), i + k = ops.length → k < fu → aDO l → gF fu l ops (ops.length : Int) (i : Int) = some true := by
 have ho := hops.1
 intro k
 induction k with
 | zero =>
  intro i fu l hi hf hs
  obtain ⟨fu, rfl⟩ : ∃ n, fu = n + 1 := ⟨fu - 1, by omega⟩
  rw [gF, bE (w3 (by omega)), asZ]; rfl
 | succ k ih =>
  intro i fu l hi hf hs
  obtain ⟨fu, rfl⟩ : ∃ n, fu = n + 1 := ⟨fu - 1, by omega⟩
  have hil : i < ops.length := by omega
  obtain ⟨A, M, B, c⟩ := aDw ops[i].Client hs.asc
  have hc := qE (xC hops hil).1
  have hst := aDY (n := ops[i].Node) hs c
  have hlen : (aDr l ops[i].Client ops[i].Node M).1.length ≤ 100000 := by
   have hn := hs.len
   have hp : ∀ x, (aDo x l).length ≤ 100000 := fun x => by
    have h1 := List.length_filter_le (ltC x.Client) l
    have h2 := List.length_filter_le (gtC x.Client) l
    unfold aDo
    rw [List.length_append, List.length_cons]
    omega
   unfold aDr
   cases oC ops[i].Client
   ·exact Nat.zero_le _
   ·cases eC 0 6 ops[i].Node
    ·exact Nat.zero_le _
    ·cases M with
     | nil =>
      cases decide ((l.length : Int) ≥ 32)
      ·exact hp _
      ·exact Nat.zero_le _
     | cons y t =>
      show (cond (decide (y.Epoch ≥ 1099511627776)) ([], aD5, 6) (aDo (aA.mk ops[i].Client ops[i].Node (y.Epoch + 1)) l, aA.mk ops[i].Client ops[i].Node (y.Epoch + 1), 0) : List aA × aA × Int).1.length ≤ 100000
      cases decide (y.Epoch ≥ 1099511627776)
      ·exact hp _
      ·exact Nat.zero_le _
  rw [gF, aT (iI hil), aT (inr hil), cW hil, aEe hs hc c, aEd hs hc c, c9, c9]
  generalize aDr l ops[i].Client ops[i].Node M = r at hst hlen
  rw [bE (by simp), akg, bE (by simp), aDM _ hlen, c9, bE (by rfl), cI (by omega)]
  by_cases h0 : r.2.2 = 0
  ·rw [aT (by simpa using h0)]
   exact ih (i + 1) fu _ (by omega) (by omega) (hst h0)
  ·rw [bE (by simpa using h0)]
   exact ih (i + 1) fu l (by omega) (by omega) hs
theorem aDB (p0 : (List aA)) (p1 : (List aA)) (g0 : D.okL [.sl aA.ks] ([D.sl aA.ks (List.map aA.enc p0)])) (g1 : D.okL [.sl aA.ks] ([D.sl aA.ks (List.map aA.enc p1)])) : tJ p0 p1 = some true := by
 have h0 : okL aA.good p0 := m0 (fun _ => aA.g8) g0.1
 have h1 : okL aA.good p1 := m0 (fun _ => aA.g8) g1.1
 unfold tJ lY
 rw [akR p0 h0, c9, asZ]
 by_cases c : aiE p0 = 0
 ·rw [bE (by simpa using c)]
  by_cases d : (p1.length : Int) > 40
  ·rw [aT (by simpa using d)]; rfl
  ·rw [bE (by simpa using d)]
   exact aEf p1 h1 p1.length 0 fuel p0 (by omega) (by rw [nA]; omega) (aDu.1 c)
 ·rw [aT (by simpa using c)]; rfl
end Md
end PX
