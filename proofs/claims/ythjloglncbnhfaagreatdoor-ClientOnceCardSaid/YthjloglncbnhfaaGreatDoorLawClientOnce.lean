import Derived.Test.YthjloglncbnhfaaGreatDoorClK
set_option linter.unusedVariables false
set_option linter.unusedSimpArgs false
namespace PX
open Go
namespace Md
abbrev Tk := Bool × Int
def freshT (r s : Nat) : List Tk := (List.range' (r + 1) (s - r)).map fun (k : Nat) => (false, (k : Int))
theorem akF {r s : Nat} (h : freshT r s = []) : s ≤ r := by
 unfold freshT at h
 have := congrArg List.length h
 simp at this; omega
theorem aaV {r s : Nat} (h : r < s) : freshT r s = (false, ((r + 1 : Nat) : Int)) :: freshT (r + 1) s := by
 unfold freshT
 rw [show s - r = (s - (r + 1)) + 1 by omega, List.range'_succ]; rfl
theorem ae0 {r s : Nat} (h : r ≤ s) : freshT r (s + 1) = freshT r s ++ [(false, ((s + 1 : Nat) : Int))] := by
 unfold freshT
 rw [show s + 1 - r = (s - r) + 1 by omega, List.range'_concat, List.map_append]
 congr 2
 simp; omega
structure TokI (U D F : List Tk) (I : List Int) (r s : Nat) : Prop where
 perm : (U ++ D).Perm F
 nd : (F.map (·.2)).Nodup
 rs : r ≤ s
 le : ∀ t ∈ F, t.2 ≤ (s : Int)
 cl : F.length ≤ s
 uf : U.filter (fun t => decide ((r : Int) < t.2)) = freshT r s
 ff : F.filter (fun t => decide ((r : Int) < t.2)) = freshT r s
 dr : ∀ t ∈ D, t.2 ≤ (r : Int)
 ii : ∀ x ∈ I, x ≤ (r : Int) ∧ x ∈ F.map (·.2)
 ui : ∀ t ∈ U, t.1 = false → t.2 ≤ (r : Int) → t.2 ∈ I
 di : ∀ t ∈ D, t.1 = false → t.2 ∈ I
 dn : ∀ t ∈ D, t.1 = true → t.2 ∉ I
variable {U D F : List Tk} {I : List Int} {r s : Nat}
theorem TokI.uniq (h : TokI U D F I r s) {t u : Tk} (ht : t ∈ F) (hu : u ∈ F) (e : t.2 = u.2) : t = u := by
 have := List.pairwise_map.1 h.nd
 rcases List.mem_iff_getElem.1 ht with ⟨i, hi, rfl⟩
 rcases List.mem_iff_getElem.1 hu with ⟨j, hj, rfl⟩
 rcases Nat.lt_trichotomy i j with q | q | q
 ·exact absurd e (List.pairwise_iff_getElem.1 this i j hi hj q)
 ·subst q; rfl
 ·exact absurd e.symm (List.pairwise_iff_getElem.1 this j i hj hi q)
theorem TokI.aid (h : TokI U D F I r s) {t : Tk} (ht : t ∈ U) : t ∈ F := h.perm.mem_iff.1 (List.mem_append_left _ ht)
theorem TokI.aof (h : TokI U D F I r s) {t : Tk} (ht : t ∈ D) : t ∈ F := h.perm.mem_iff.1 (List.mem_append_right _ ht)
theorem amg (h : TokI U D F I r s) : TokI F [] F I r s where
 perm := by rw [List.append_nil]
 nd := h.nd
 rs := h.rs
 le := h.le
 cl := h.cl
 uf := h.ff
 ff := h.ff
 dr := by simp
 ii := h.ii
 ui := fun t ht hf hr => by
  rcases List.mem_append.1 (h.perm.mem_iff.2 ht) with q | q
  ·exact h.ui t q hf hr
  ·exact h.di t q hf
 di := by simp
 dn := by simp
theorem akM (h : TokI U D F I r s) : TokI (U ++ [(false, ((s + 1 : Nat) : Int))]) D (F ++ [(false, ((s + 1 : Nat) : Int))]) I r (s + 1) where
 perm := by
  rw [List.append_assoc]
  refine (List.Perm.append_left U List.perm_append_comm).trans ?_
  rw [← List.append_assoc]
  exact h.perm.append_right _
 nd := by
  rw [List.map_append, List.nodup_append]
  refine ⟨h.nd, by simp, fun a ha b hb => ?_⟩
  obtain ⟨t, ht, rfl⟩ := List.mem_map.1 ha
  simp only [List.map_cons, List.map_nil, List.mem_singleton] at hb
  have := h.le t ht
  omega
 rs := by have := h.rs; omega
 le := fun t ht => by
  rcases List.mem_append.1 ht with q | q
  ·have := h.le t q; omega
  ·rw [List.mem_singleton] at q; rw [q]; exact Int.le_refl _
 cl := by have := h.cl; simp; omega
 uf := by
  have := h.rs
  rw [List.filter_append, h.uf, ae0 h.rs]
  congr 1
  rw [List.filter_cons, if_pos (by simp; omega)]; rfl
 ff := by
  have := h.rs
  rw [List.filter_append, h.ff, ae0 h.rs]
  congr 1
  rw [List.filter_cons, if_pos (by simp; omega)]; rfl
 dr := h.dr
 ii := fun x hx => ⟨(h.ii x hx).1, by rw [List.map_append]; exact List.mem_append_left _ (h.ii x hx).2⟩
 ui := fun t ht hf hr => by
  rcases List.mem_append.1 ht with q | q
  ·exact h.ui t q hf hr
  ·have := h.rs
   rw [List.mem_singleton] at q; rw [q] at hr; simp only at hr; omega
 di := h.di
 dn := h.dn
theorem ab2 (U D : List Tk) (t : Tk) : (U ++ (D ++ [t])).Perm (t :: U ++ D) := by
 rw [← List.append_assoc]
 exact List.perm_append_comm (l₁ := U ++ D) (l₂ := [t])
theorem akC {x : Int} {I' : List Int} (h : TokI ((false, x) :: U) D F I r s) (hx : (r : Int) < x) (hI : ∀ y, y ∈ I' ↔ y = x ∨ y ∈ I) : x = ((r + 1 : Nat) : Int) ∧ x ∉ I ∧ TokI U (D ++ [(false, x)]) F I' (r + 1) s := by
 have hlt : r < s := by
  have := h.le _ (h.aid (List.mem_cons_self ..))
  simp only at this; omega
 have e := h.uf
 rw [List.filter_cons, if_pos (by simpa using hx), aaV hlt] at e
 have e1 : x = ((r + 1 : Nat) : Int) := congrArg Prod.snd (List.cons.inj e).1
 have e2 := (List.cons.inj e).2
 have shift : ∀ {L M : List Tk}, L.filter (fun t => decide ((r : Int) < t.2)) = M → L.filter (fun t => decide (((r + 1 : Nat) : Int) < t.2)) = M.filter (fun t => decide (((r + 1 : Nat) : Int) < t.2)) := fun {L M} q => by
  rw [← q, List.filter_filter]
  refine List.filter_congr fun t _ => ?_
  by_cases c : ((r + 1 : Nat) : Int) < t.2
  ·have : (r : Int) < t.2 := by omega
   simp [c, this]
  ·simp [c]; omega
 have self : (freshT (r + 1) s).filter (fun t => decide (((r + 1 : Nat) : Int) < t.2)) = freshT (r + 1) s := by
  rw [List.filter_eq_self]
  intro t ht
  unfold freshT at ht
  obtain ⟨k, hk, rfl⟩ := List.mem_map.1 ht
  have := (List.mem_range'_1.1 hk).1
  simp only [decide_eq_true_eq]; omega
 have hxI : x ∉ I := fun hx' => by have := (h.ii x hx').1; omega
 refine ⟨e1, hxI, ?_⟩
 exact {
  perm := (ab2 U D (false, x)).trans h.perm
  nd := h.nd
  rs := hlt
  le := h.le
  cl := h.cl
  uf := by rw [shift e2, self]
  ff := by
   rw [shift h.ff, aaV hlt, List.filter_cons, if_neg (by simp), self]
  dr := fun t ht => by
   rcases List.mem_append.1 ht with q | q
   ·have := h.dr t q; omega
   ·rw [List.mem_singleton] at q; rw [q]; simp only; omega
  ii := fun y hy => by
   rcases (hI y).1 hy with rfl | hy
   ·exact ⟨by omega, List.mem_map.2 ⟨_, h.aid (List.mem_cons_self ..), rfl⟩⟩
   ·have := h.ii y hy; exact ⟨by omega, this.2⟩
  ui := fun t ht hf hr => by
   by_cases c : (r : Int) < t.2
   ·exact (hI _).2 (.inl (by omega))
   ·exact (hI _).2 (.inr (h.ui t (List.mem_cons_of_mem _ ht) hf (by omega)))
  di := fun t ht hf => by
   rcases List.mem_append.1 ht with q | q
   ·exact (hI _).2 (.inr (h.di t q hf))
   ·rw [List.mem_singleton] at q; rw [q]; exact (hI _).2 (.inl rfl)
  dn := fun t ht hf hm => by
   rcases List.mem_append.1 ht with q | q
   ·rcases (hI _).1 hm with e | e
    ·have := h.dr t q; omega
    ·exact h.dn t q hf e
   ·rw [List.mem_singleton] at q; rw [q] at hf; cases hf }
theorem anw {x : Int} (h : TokI ((false, x) :: U) D F I r s) (hx : x ≤ (r : Int)) : x ∈ I ∧ TokI U (D ++ [(false, x)]) F I r s := by
 have hxI := h.ui _ (List.mem_cons_self ..) rfl hx
 have e := h.uf
 rw [List.filter_cons, if_neg (by simp; omega)] at e
 exact ⟨hxI, {
  perm := (ab2 U D (false, x)).trans h.perm
  nd := h.nd
  rs := h.rs
  le := h.le
  cl := h.cl
  uf := e
  ff := h.ff
  dr := fun t ht => by
   rcases List.mem_append.1 ht with q | q
   ·exact h.dr t q
   ·rw [List.mem_singleton] at q; rw [q]; exact hx
  ii := h.ii
  ui := fun t ht => h.ui t (List.mem_cons_of_mem _ ht)
  di := fun t ht hf => by
   rcases List.mem_append.1 ht with q | q
   ·exact h.di t q hf
   ·rw [List.mem_singleton] at q; rw [q]; exact hxI
  dn := fun t ht hf hm => by
   rcases List.mem_append.1 ht with q | q
   ·exact h.dn t q hf hm
   ·rw [List.mem_singleton] at q; rw [q] at hf; cases hf }⟩
theorem amV {x : Int} {I' : List Int} (h : TokI ((true, x) :: U) D F I r s) (hI : ∀ y, y ∈ I' ↔ y ≠ x ∧ y ∈ I) : TokI U (D ++ [(true, x)]) F I' r s := by
 have hF := h.aid (List.mem_cons_self ..)
 have e := h.uf
 have hx : x ≤ (r : Int) := by
  refine Int.not_lt.1 fun hx => ?_
  rw [List.filter_cons, if_pos (by simpa using hx)] at e
  by_cases c : r < s
  ·rw [aaV c] at e
   exact absurd (congrArg Prod.fst (List.cons.inj e).1) (by simp)
  ·have := h.le _ hF; simp only at this; omega
 rw [List.filter_cons, if_neg (by simp; omega)] at e
 have ne : ∀ {t : Tk}, t ∈ F → t.1 = false → t.2 ≠ x := fun {t} ht hf q => by
  have := h.uniq ht hF q
  rw [this] at hf; cases hf
 exact {
  perm := (ab2 U D (true, x)).trans h.perm
  nd := h.nd
  rs := h.rs
  le := h.le
  cl := h.cl
  uf := e
  ff := h.ff
  dr := fun t ht => by
   rcases List.mem_append.1 ht with q | q
   ·exact h.dr t q
   ·rw [List.mem_singleton] at q; rw [q]; exact hx
  ii := fun y hy => h.ii y ((hI y).1 hy).2
  ui := fun t ht hf hr => (hI _).2 ⟨ne (h.aid (List.mem_cons_of_mem _ ht)) hf, h.ui t (List.mem_cons_of_mem _ ht) hf hr⟩
  di := fun t ht hf => by
   rcases List.mem_append.1 ht with q | q
   ·exact (hI _).2 ⟨ne (h.aof q) hf, h.di t q hf⟩
   ·rw [List.mem_singleton] at q; rw [q] at hf; cases hf
  dn := fun t ht hf hm => by
   rcases List.mem_append.1 ht with q | q
   ·exact h.dn t q hf ((hI _).1 hm).2
   ·rw [List.mem_singleton] at q; rw [q] at hm; exact ((hI _).1 hm).1 rfl }
theorem ah5 {L A B : List Tk} {t : Tk} (h : (t :: L).Perm (A ++ t :: B)) : L.Perm (A ++ B) := (h.trans List.perm_middle).cons_inv
theorem am7 {x : Int} {A B : List Tk} (h : TokI U ((false, x) :: D) F I r s) (hF : F = A ++ (false, x) :: B) : TokI (U ++ [(true, x)]) D (A ++ (true, x) :: B) I r s := by
 subst hF
 have hx := h.dr _ (List.mem_cons_self ..)
 simp only at hx
 have hp : (U ++ D).Perm (A ++ B) := ah5 (List.perm_middle.symm.trans h.perm)
 have ids : (A ++ (true, x) :: B).map (·.2) = (A ++ (false, x) :: B).map (·.2) := by simp
 exact {
  perm := by
   rw [List.append_assoc]
   exact (List.perm_middle (l₁ := U) (l₂ := D) (a := (true, x))).trans ((List.Perm.cons _ hp).trans List.perm_middle.symm)
  nd := by rw [ids]; exact h.nd
  rs := h.rs
  le := fun t ht => by
   rcases List.mem_append.1 ht with q | q
   ·exact h.le t (List.mem_append_left _ q)
   ·rcases List.mem_cons.1 q with rfl | q
    ·have := h.rs; simp only; omega
    ·exact h.le t (by simp [q])
  cl := by have := h.cl; simp at this ⊢; omega
  uf := by
   rw [List.filter_append, h.uf, List.filter_cons, if_neg (by simp; omega)]; simp
  ff := by
   have e := h.ff
   rw [List.filter_append, List.filter_cons, if_neg (by simp; omega)] at e ⊢
   exact e
  dr := fun t ht => h.dr t (List.mem_cons_of_mem _ ht)
  ii := fun y hy => by rw [ids]; exact h.ii y hy
  ui := fun t ht hf hr => by
   rcases List.mem_append.1 ht with q | q
   ·exact h.ui t q hf hr
   ·rw [List.mem_singleton] at q; rw [q] at hf; cases hf
  di := fun t ht => h.di t (List.mem_cons_of_mem _ ht)
  dn := fun t ht => h.dn t (List.mem_cons_of_mem _ ht) }
theorem al8 {x : Int} {A B : List Tk} (h : TokI U ((true, x) :: D) F I r s) (hF : F = A ++ (true, x) :: B) : TokI U D (A ++ B) I r s := by
 subst hF
 have hx := h.dr _ (List.mem_cons_self ..)
 have hn := h.dn _ (List.mem_cons_self ..) rfl
 simp only at hx hn
 exact {
  perm := ah5 (List.perm_middle.symm.trans h.perm)
  nd := by
   have := h.nd
   rw [List.map_append, List.map_cons] at this
   rw [List.map_append]
   exact (List.perm_middle.nodup_iff.1 this).of_cons
  rs := h.rs
  le := fun t ht => h.le t (by
   rcases List.mem_append.1 ht with q | q
   ·exact List.mem_append_left _ q
   ·simp [q])
  cl := by have := h.cl; simp at this ⊢; omega
  uf := h.uf
  ff := by
   have e := h.ff
   rw [List.filter_append, List.filter_cons, if_neg (by simp; omega)] at e
   rw [List.filter_append]; exact e
  dr := fun t ht => h.dr t (List.mem_cons_of_mem _ ht)
  ii := fun y hy => by
   refine ⟨(h.ii y hy).1, ?_⟩
   have := (h.ii y hy).2
   rw [List.map_append, List.map_cons, List.mem_append, List.mem_cons] at this
   rw [List.map_append, List.mem_append]
   rcases this with q | q | q
   ·exact .inl q
   ·exact absurd (show x ∈ I by rw [← show y = x from q]; exact hy) hn
   ·exact .inr q
  ui := h.ui
  di := fun t ht => h.di t (List.mem_cons_of_mem _ ht)
  dn := fun t ht => h.dn t (List.mem_cons_of_mem _ ht) }
theorem ale (h : TokI U D F I r s) (hF : F = []) : U = [] ∧ D = [] ∧ r = s := by
 subst hF
 have e : U ++ D = [] := List.perm_nil.1 h.perm
 have := h.ff
 have := akF this.symm
 have := h.rs
 exact ⟨(List.append_eq_nil_iff.1 e).1, (List.append_eq_nil_iff.1 e).2, by omega⟩
theorem ai6 : ∀ (l m : List Int), l.Nodup → (∀ x ∈ l, x ∈ m) → l.length ≤ m.length
 | [], m, _, _ => Nat.zero_le _
 | a :: l, m, hn, hs => by
  have ha := hs a (List.mem_cons_self ..)
  have := ai6 l (m.erase a) (List.nodup_cons.1 hn).2 fun x hx => by
   refine (List.mem_erase_of_ne fun e => ?_).2 (hs x (List.mem_cons_of_mem _ hx))
   subst e; exact (List.nodup_cons.1 hn).1 hx
  rw [List.length_erase_of_mem ha] at this
  have := List.length_pos_of_mem ha
  simp; omega
theorem agA : ∀ {l : List Int} {a : Int}, jF a l = true → l.Nodup ∧ ∀ x ∈ l, a < x
 | [], _, _ => ⟨List.nodup_nil, by simp⟩
 | x :: l, a, h => by
  obtain ⟨h1, h2, h3⟩ := j3.1 h
  obtain ⟨q1, q2⟩ := agA h3
  refine ⟨List.nodup_cons.2 ⟨fun hx => ?_, q1⟩, fun y hy => ?_⟩
  ·have := q2 x hx; omega
  ·rcases List.mem_cons.1 hy with rfl | hy
   ·exact h1
   ·have := q2 y hy; omega
theorem alQ {x : Int} (h : TokI ((false, x) :: U) D F I r s) (hx : x ∉ I) (ha : jF 0 I = true) (hF : F.length ≤ 32) : I.length < 32 := by
 have hm := h.aid (List.mem_cons_self ..)
 have := ai6 (x :: I) (F.map (·.2)) (List.nodup_cons.2 ⟨hx, (agA ha).1⟩) fun y hy => by
  rcases List.mem_cons.1 hy with rfl | hy
  ·exact List.mem_map.2 ⟨_, hm, rfl⟩
  ·exact (h.ii y hy).2
 simp at this; omega
def upC (U : List Tk) : Nat := (U.map fun t => cond t.1 2 4).sum
def dnC (D : List Tk) : Nat := (D.map fun t => cond t.1 1 3).sum
theorem afi (U V : List Tk) : upC (U ++ V) = upC U + upC V := by simp [upC]
theorem aja (U V : List Tk) : dnC (U ++ V) = dnC U + dnC V := by simp [dnC]
theorem ad2 : ∀ (U D : List Tk), upC U + dnC D ≤ 4 * (U.length + D.length)
 | [], [] => by simp [upC, dnC]
 | t :: U, D => by
  have := ad2 U D
  simp only [upC, List.map_cons, List.sum_cons, List.length_cons] at this ⊢
  cases t.1 <;> simp <;> omega
 | [], t :: D => by
  have := ad2 [] D
  simp only [dnC, List.map_cons, List.sum_cons, List.length_cons, List.length_nil] at this ⊢
  cases t.1 <;> simp <;> omega
end Md
end PX
set_option linter.unusedVariables false
set_option linter.unusedSimpArgs false
namespace PX
open Go
namespace Md
def MsgO (m : aB) (k : Int) : Prop := okT m ∧ m.Level = 2 ∧ m.From = [97] ∧ m.Seq = k
def tokF (f : aC) : Tk := (f.State == 2, f.ID)
def tokP (p : aA) : Tk := (p.Kind == 6 || p.Kind == 7, p.ID)
def UpOK (p : aA) : Prop := ∃ id : Int, 1 ≤ id ∧ id ≤ 65535 ∧ ((∃ d m, p = iF id d m ∧ MsgO m id) ∨ p = mD id)
def DnOK (p : aA) : Prop := ∃ id : Int, 1 ≤ id ∧ id ≤ 65535 ∧ (p = eG 5 id ∨ p = eG 7 id)
structure SndB (c : client_Client) (s N : Nat) : Prop where
 ok : LOK c
 name : c.name = [97]
 le : (c.out.Items.length : Int) ≤ c.out.Limit
 last : c.out.Pool.Last = (s : Int)
 used : ∀ y ∈ c.out.Pool.Used, y ≤ (s : Int)
 items : ∀ f ∈ c.out.Items, MsgO f.Message f.ID ∧ 1 ≤ f.ID ∧ f.ID ≤ 65535
 wait : ∀ (i : Nat) (m : aB), c.waiting[i]? = some m → MsgO m ((s + 1 + i : Nat) : Int)
 cnt : c.count = (N : Int)
 tot : s + c.waiting.length = N
 small : N ≤ 60
theorem aoV {p : aQ} (h : poolE p = 0) (hl : p.Used.length ≤ 31) {s : Nat} (hs : p.Last = (s : Int)) (h6 : s ≤ 60) (hu : ∀ y ∈ p.Used, y ≤ (s : Int)) : oJ p = some (((s + 1 : Nat) : Int), ⟨gJ p.Used ((s + 1 : Nat) : Int), ((s + 1 : Nat) : Int)⟩, 0) := by
 obtain ⟨_, ha, h0, h1⟩ := tU h
 have hout : p.Used.contains ((s + 1 : Nat) : Int) = false := by
  cases hc : p.Used.contains ((s + 1 : Nat) : Int) with
  | false => rfl
  | true => have := hu _ (by simpa using hc); omega
 have e : p.Last % 65535 + 1 = ((s + 1 : Nat) : Int) := by rw [hs]; omega
 have key : ∀ (fu : Nat) (z : aQ), 0 < fu → hZ fu p.Last ((p.Used.length + 1 : Nat) : Int) ((0 : Nat) : Int) p z = some (((s + 1 : Nat) : Int), ⟨gJ p.Used ((s + 1 : Nat) : Int), ((s + 1 : Nat) : Int)⟩, 0) := by
  intro fu z hf
  obtain ⟨fu, rfl⟩ : ∃ n, fu = n + 1 := ⟨fu - 1, by omega⟩
  rw [hZ, aL (by simp <;> omega), afR h0 h1, aW, e, p7 _ (qD ha) (by omega), aW, hout]
  simp only [Bool.not_false, bR]
  rw [pQ (by omega), aW, adg _ (by omega), aW]
 unfold oJ
 rw [aO (by simp; omega), cI (by omega)]
 exact key fuel _ (by rw [kT]; omega)
theorem aoq {w : aG} (h : WOK w) (hl : w.Items.length < w.Limit) {m : aB} (hm : okT m) (hv : m.Level ≠ 0) {s : Nat} (hs : w.Pool.Last = (s : Int)) (h6 : s ≤ 60) (hu : ∀ y ∈ w.Pool.Used, y ≤ (s : Int)) :
  gN w m = some (begun w m ((s + 1 : Nat) : Int), iF ((s + 1 : Nat) : Int) false m, 0) := by
 have a1 := h.l1
 have a2 := h.used
 have a3 := pX hm.1
 have e1 := aoV h.pool (by omega) hs h6 hu
 have hz : (if w.Limit ≤ w.Items.length then (0 : Int) else w.Limit - w.Items.length) ≠ 0 := by rw [if_neg (by omega)]; omega
 unfold gN
 rw [aO (by simpa using hv), ahk h, aW, aO (by simpa using hz), j6 _ (qL hm.2), aW, hm.1, aO (by rfl), e1, aW, aO (by rfl), vK h.lit, aW, qN (by omega), aW, aL (by simp; omega)]
 unfold iG
 rw [qN (by show m.Props.length ≤ 1000; omega)]
 rfl
structure an6 (c : client_Client) (U D : List Tk) (I : List Int) (r N w : Nat) (res : Option (List aA × client_Client)) (pre : List aA) (c' : client_Client) (L : List aA) (s' : Nat) : Prop where
 eq : res = some (pre ++ L, c')
 snd : SndB c' s' N
 st : c'.state = c.state
 full : (c'.out.Items.length : Int) = c'.out.Limit ∨ c'.waiting = []
 tok : TokI (U ++ L.map tokP) D (c'.out.Items.map tokF) I r s'
 up : ∀ p ∈ L, UpOK p
 cost : 4 * c'.waiting.length + upC (L.map tokP) = 4 * w
 len : L.length ≤ w
theorem an8 : ∀ (q : List aB) (c : client_Client) (pre : List aA) (fu s N : Nat) (U D : List Tk) (I : List Int) (r : Nat), c.waiting = q → q.length < fu → SndB c s N → c.state = 2 → pre.length + q.length ≤ 1000 → TokI U D (c.out.Items.map tokF) I r s →
  ∃ c' L s', an6 c U D I r N q.length (bX fu c pre) pre c' L s' := by
 intro q
 induction q with
 | nil =>
  intro c pre fu s N U D I r hq hf hc hs hp ht
  obtain ⟨fu, rfl⟩ : ∃ n, fu = n + 1 := ⟨fu - 1, by omega⟩
  refine ⟨c, [], s, ?_, hc, rfl, .inr hq, by simpa using ht, by simp, by rw [hq]; rfl, by simp⟩
  rw [bX, hq]; cases c.state == 2 <;> simp
 | cons m t ih =>
  intro c pre fu s N U D I r hq hf hc hs hp ht
  obtain ⟨fu, rfl⟩ : ∃ n, fu = n + 1 := ⟨fu - 1, by omega⟩
  simp only [List.length_cons] at hf hp
  have htot := hc.ok.tot
  have hN := hc.tot
  have h6 := hc.small
  have hle := hc.le
  have hlim := hc.ok.out.l1
  rw [hq] at htot hN
  simp only [List.length_cons] at htot hN
  obtain ⟨hm, hlev, hfr, hsq⟩ := hc.wait 0 m (by rw [hq]; rfl)
  have htl : ∀ x ∈ t, okT x := fun x hx => hc.ok.wait x (by rw [hq]; simp [hx])
  have hmv : m.Level ≠ 0 := by rw [hlev]; decide
  have hcut : fE (m :: t) (some 1) none = t := by simp [fE]
  have hc0 : (decide (((m :: t).length : Int) > 0)) = true := by simp
  have hc1 : decide (0 ≤ 0) = true := rfl
  have hc2 : decide (0 ≤ 1) = true := rfl
  have hc3 : decide ((1 : Int) ≤ ((m :: t).length : Int)) = true := by simp; omega
  have hc4 : decide ((0 : Int) < ((m :: t).length : Int)) = true := by simp
  have hgd : List.getD (m :: t) (Int.toNat 0) default = m := rfl
  have hv' : (m.Level == 0) = false := by simpa using hmv
  have hs' : (c.state == 2) = true := by rw [hs]; rfl
  by_cases cc : c.out.Limit ≤ c.out.Items.length
  ·refine ⟨c, [], s, ?_, hc, rfl, .inl (by omega), by simpa using ht, by simp, by rw [hq]; rfl, by simp⟩
   rw [bX, hs', bR]
   unfold eU dX
   rw [hq]
   simp only [hc0, hc1, hc2, hc3, hc4, Bool.and_self, bR, hgd, hcut, hv', cG]
   unfold gN
   rw [aO (by simpa using hmv), ahk hc.ok.out, if_pos cc, List.append_nil]; rfl
  ·have e1 := aoq hc.ok.out (by omega) hm hmv hc.last (by omega) hc.used
   have hx : ((s + 1 : Nat) : Int) ∉ c.out.Pool.Used := fun hx => by have := hc.used _ hx; omega
   have hseq : m.Seq = ((s + 1 : Nat) : Int) := hsq
   have hB := ahJ hc.ok.out (by omega) hm hmv (x := ((s + 1 : Nat) : Int)) (by omega) (by omega) hx
   have hi1 : (c.out.Items ++ [aC.mk ((s + 1 : Nat) : Int) 1 m]).length = c.out.Items.length + 1 := by simp
   have hc2' : SndB (aea (sD c (begun c.out m ((s + 1 : Nat) : Int))) t) (s + 1) N := by
    refine ⟨⟨⟨hc.ok.name, hB, hc.ok.inb, htl, ?_⟩, hc.ok.l1⟩, hc.name, ?_, rfl, ?_, ?_, ?_, hc.cnt, ?_, h6⟩
    ·show t.length + (c.out.Items ++ [_]).length ≤ 288; omega
    ·show ((c.out.Items ++ [aC.mk ((s + 1 : Nat) : Int) 1 m]).length : Int) ≤ c.out.Limit; omega
    ·intro y hy
     have hy : y ∈ gJ c.out.Pool.Used ((s + 1 : Nat) : Int) := hy
     rcases (abd _ _ _).1 hy with rfl | hy
     ·exact Int.le_refl _
     ·have := hc.used y hy; omega
    ·intro f hf
     have hf : f ∈ c.out.Items ++ [aC.mk ((s + 1 : Nat) : Int) 1 m] := hf
     rcases List.mem_append.1 hf with hf | hf
     ·exact hc.items f hf
     ·rw [List.mem_singleton] at hf
      rw [hf]
      exact ⟨⟨hm, hlev, hfr, hseq⟩, by show (1 : Int) ≤ ((s + 1 : Nat) : Int); omega, by show ((s + 1 : Nat) : Int) ≤ 65535; omega⟩
    ·intro i x hi
     have := hc.wait (i + 1) x (by rw [hq]; exact hi)
     rw [show s + 1 + 1 + i = s + 1 + (i + 1) by omega]; exact this
    ·show s + 1 + t.length = N; omega
   have htk : TokI (U ++ [(false, ((s + 1 : Nat) : Int))]) D ((aea (sD c (begun c.out m ((s + 1 : Nat) : Int))) t).out.Items.map tokF) I r (s + 1) := by
    show TokI _ D ((c.out.Items ++ [aC.mk ((s + 1 : Nat) : Int) 1 m]).map tokF) I r (s + 1)
    rw [List.map_append]; exact akM ht
   obtain ⟨c', L, s', f1, f2, f3, f4, f5, f6, f7, f8⟩ := ih (aea (sD c (begun c.out m ((s + 1 : Nat) : Int))) t) (pre ++ [iF ((s + 1 : Nat) : Int) false m]) fu (s + 1) N (U ++ [(false, ((s + 1 : Nat) : Int))]) D I r rfl (by omega) hc2' hs (by simp; omega) htk
   refine ⟨c', iF ((s + 1 : Nat) : Int) false m :: L, s', ?_, f2, f3, f4, ?_, ?_, ?_, ?_⟩
   ·rw [bX, hs', bR]
    unfold eU dX
    rw [hq]
    simp only [hc0, hc1, hc2, hc3, hc4, Bool.and_self, bR, hgd, hcut, hv', cG]
    rw [e1]
    have hz2 : ((0 : Int) != 0) = false := rfl
    simp only [aW, hz2, cG]
    rw [aL (by simp; omega)]
    rw [List.append_assoc] at f1
    exact f1
   ·rw [List.append_assoc] at f5
    exact f5
   ·intro p hp
    rcases List.mem_cons.1 hp with rfl | hp
    ·exact ⟨((s + 1 : Nat) : Int), by omega, by omega, .inl ⟨false, m, rfl, hm, hlev, hfr, hseq⟩⟩
    ·exact f6 p hp
   ·have : upC ((iF ((s + 1 : Nat) : Int) false m :: L).map tokP) = 4 + upC (L.map tokP) := by simp [upC, tokP, iF]
    rw [this, List.length_cons]; omega
   ·rw [List.length_cons, List.length_cons]; omega
theorem aft {c : client_Client} {s N : Nat} {U D : List Tk} {I : List Int} {r : Nat} (hc : SndB c s N) (hs : c.state = 2) {pre : List aA} (hp : pre.length ≤ 100) (ht : TokI U D (c.out.Items.map tokF) I r s) :
  ∃ c' L s', an6 c U D I r N c.waiting.length (bH c pre) pre c' L s' := by
 have h1 := hc.tot
 have h2 := hc.small
 exact an8 c.waiting c pre fuel s N U D I r rfl (by rw [kT]; omega) hc hs (by omega) ht
theorem ane {w : aG} (h : WOK w) {A B : List aC} {f : aC} (e : w.Items = A ++ f :: B) : kV w (A.length : Int) = some (kY w A f B) := by
 obtain ⟨h1, h2, h3, h4⟩ := aii e
 have hl := h.len
 have hu := h.used
 have hx : f.ID ∈ w.Pool.Used := h.mem f (by rw [e]; simp)
 have t1 : Int.toNat (A.length : Int) = A.length := by simp
 have t2 : Int.toNat ((A.length + 1 : Nat) : Int) = A.length + 1 := by simp
 unfold kV
 rw [aL (inr h1), t1, h2, ano h.pool hx, aW, vK h.lit, aW, cI (by omega)]
 unfold fW adK
 rw [aL (by simp; omega), aW, t1, t2, h3, h4]; rfl
theorem ai2 {w : aG} (h : WOK w) {id : Int} (hm : ∃ f ∈ w.Items, f.ID = id) : ∃ A f B, w.Items = A ++ f :: B ∧ f.ID = id ∧ (f.Message.Level = 2 → iZ w (eG 5 id) = some (mM w A f B, [mD id], 0)) ∧ (f.State = 2 → iZ w (eG 7 id) = some (kY w A f B, [], 0)) := by
 have hl := h.len
 rcases agw id w.Items 0 with ⟨_, e2⟩ | ⟨A, f, B, e1, e2, e3⟩
 ·obtain ⟨f, hf, e⟩ := hm
  exact absurd e (e2 f hf)
 ·have hi := aii e1
  have ht : (0 : Int) + (A.length : Int) = (A.length : Int) := by omega
  have d1 : decide ((A.length : Int) ≥ 0) = true := by simp
  have d2 : decide ((A.length : Int) < 0) = false := by simp
  have t1 : Int.toNat (A.length : Int) = A.length := by simp
  have hr : decide ((A.length : Int) < (w.Items.length : Int)) = true := decide_eq_true (by have := hi.1; omega)
  have hr0 : decide (0 ≤ (A.length : Int)) = true := decide_eq_true (by omega)
  have m1 := ane h e1
  have hset : aG.mk w.Limit (w.Items.set A.length (aC.mk id 2 f.Message)) w.Pool = mM w A f B := by
   rw [e1, List.set_append_right _ _ (Nat.le_refl _), ← e2]
   simp [mM]
  refine ⟨A, f, B, e1, e2, fun hv => ?_, fun hv => ?_⟩
  ·have k : (eG 5 id).ID = id := rfl
   have k4 : ((eG 5 id).Kind == 4) = false := rfl
   have k5 : ((eG 5 id).Kind == 5) = true := rfl
   have v2 : (f.Message.Level == 2) = true := by rw [hv]; rfl
   unfold iZ
   rw [k, find_eq _ _ (by omega), aW, e3, ht, d1]
   unfold iK
   simp only [bR, cG, hr, hr0, Bool.and_self, t1, hi.2.1, d2, vK h.lit, aW, ago, k, k4, k5, v2, e2, hset]
  ·have k : (eG 7 id).ID = id := rfl
   have k4 : ((eG 7 id).Kind == 4) = false := rfl
   have k5 : ((eG 7 id).Kind == 5) = false := rfl
   have k7 : ((eG 7 id).Kind == 7) = true := rfl
   have v2 : (f.State == 2) = true := by rw [hv]; rfl
   unfold iZ
   rw [k, find_eq _ _ (by omega), aW, e3, ht, d1]
   unfold iK
   simp only [bR, cG, hr, hr0, Bool.and_self, t1, hi.2.1, d2, vK h.lit, aW, k, k4, k5, k7, v2, m1]
theorem ah4 {c : client_Client} (hs : c.state = 2) {k id : Int} (hk : k = 5 ∨ k = 7) (h0 : 1 ≤ id) (h1 : id ≤ 65535) : bJ c (eG k id) = dH c (eG k id) := by
 have gi : okI .i64 id := xT (by omega) (by omega)
 have hr : eD 1 65535 id = true := uY.2 ⟨h0, h1⟩
 have fin : ∀ x : Option ((List aA) × (List aB) × Int × client_Client), (Option.bind x fun r => some (r.1, r.2.1, r.2.2.1, r.2.2.2)) = x := fun x => by cases x <;> rfl
 have main : ∀ p : aA, p.Kind = 5 ∨ p.Kind = 7 → gF p = some 0 → bJ c p = dH c p := fun p hk hp => by
  unfold bJ dL eK fH
  rw [hs, aO (by rfl), hp, aW, aO (by rfl), aO (by rfl), yO, aW]
  rcases hk with hk | hk <;> rw [hk] <;> exact fin _
 refine main _ hk ?_
 rcases hk with rfl | rfl
 ·rw [mQ _ (kH (eW (by decide) (by decide)) gi)]
  unfold iY
  rw [aL (by rfl), aL (decide_eq_true (by rfl))]
  show some (mS id) = _
  unfold mS; rw [hr]; rfl
 ·rw [mQ _ (kH (eW (by decide) (by decide)) gi)]
  unfold iY
  rw [aL (by rfl), aL (decide_eq_true (by rfl))]
  show some (mS id) = _
  unfold mS; rw [hr]; rfl
end Md
end PX
set_option linter.unusedVariables false
set_option linter.unusedSimpArgs false
namespace PX
open Go
namespace Md
structure Pre (c : client_Client) (I : List Int) (U D : List Tk) (N : Nat) (S : List aB) (s : Nat) : Prop where
 snd : SndB c s N
 inb : okB15 I
 seen : ∀ (i : Nat) (m : aB), S[i]? = some m → m.Seq = ((i + 1 : Nat) : Int) ∧ m.From = [97]
 tok : TokI U D (c.out.Items.map tokF) I S.length s
structure Inv (c : client_Client) (I : List Int) (Up Dn : List aA) (N : Nat) (S : List aB) (s : Nat) : Prop extends Pre c I (Up.map tokP) (Dn.map tokP) N S s where
 st : c.state = 2
 full : (c.out.Items.length : Int) = c.out.Limit ∨ c.waiting = []
 up : ∀ p ∈ Up, UpOK p
 dn : ∀ p ∈ Dn, DnOK p
def jV (c : client_Client) (Up Dn : List aA) : Nat := 4 * c.waiting.length + upC (Up.map tokP) + dnC (Dn.map tokP)
theorem Inv.zH {c : client_Client} {I : List Int} {Up Dn : List aA} {N : Nat} {S : List aB} {s : Nat} (h : Inv c I Up Dn N S s) : Up.length + Dn.length = c.out.Items.length ∧ c.out.Items.length ≤ 32 ∧ S.length ≤ s ∧ s ≤ N ∧ N ≤ 60 := by
 have e := h.tok.perm.length_eq
 simp only [List.length_append, List.length_map] at e
 have := h.snd.tot
 exact ⟨e, h.snd.ok.out.len, h.tok.rs, by omega, h.snd.small⟩
theorem aij {id : Int} {d : Bool} {m : aB} (h0 : 1 ≤ id) (h1 : id ≤ 65535) (hm : MsgO m id) : iY (iF id d m) = 0 := by
 have hr : eD 1 65535 id = true := uY.2 ⟨h0, h1⟩
 unfold iY
 rw [aL (by rfl), aL (decide_eq_true (by rfl))]
 show rS (iF id d m) = 0
 unfold rS
 rw [aL (by show (eQ m == 0) = true; rw [hm.1.1]; rfl), aO (by show (m.Level == 0) = false; rw [hm.2.1]; rfl)]
 show mS id = 0
 unfold mS; rw [hr]; rfl
theorem akE {I : List Int} {id : Int} {d : Bool} {m : aB} (h0 : 1 ≤ id) (h1 : id ≤ 65535) (hm : MsgO m id) (hI : id ∈ I) : pS I (iF id d m) = (aH.mk I, false, [eG 5 id], 0) := by
 have c1 : (iY (iF id d m) == 0) = true := by rw [aij h0 h1 hm]; rfl
 have v0 : ((iF id d m).Message.Level == 0) = false := by show (m.Level == 0) = false; rw [hm.2.1]; rfl
 have v1 : ((iF id d m).Message.Level == 1) = false := by show (m.Level == 1) = false; rw [hm.2.1]; rfl
 have v2 : I.contains (iF id d m).ID = true := by show I.contains id = true; simpa using hI
 unfold pS
 rw [aL (by rfl), c1, v0, v1, v2]; rfl
theorem ank {I : List Int} {id : Int} {d : Bool} {m : aB} (h0 : 1 ≤ id) (h1 : id ≤ 65535) (hm : MsgO m id) (hI : id ∉ I) (hl : I.length < 32) : pS I (iF id d m) = (aH.mk (gJ I id), true, [eG 5 id], 0) := by
 have c1 : (iY (iF id d m) == 0) = true := by rw [aij h0 h1 hm]; rfl
 have v0 : ((iF id d m).Message.Level == 0) = false := by show (m.Level == 0) = false; rw [hm.2.1]; rfl
 have v1 : ((iF id d m).Message.Level == 1) = false := by show (m.Level == 1) = false; rw [hm.2.1]; rfl
 have v2 : I.contains (iF id d m).ID = false := by show I.contains id = false; simpa using hI
 have v3 : decide ((I.length : Int) ≥ 32) = false := decide_eq_false (by omega)
 unfold pS
 rw [aL (by rfl), c1, v0, v1, v2, v3]; rfl
theorem akN {I : List Int} {id : Int} (h0 : 1 ≤ id) (h1 : id ≤ 65535) : nK I (mD id) = (aH.mk (wB I id), eG 7 id, 0) := by
 unfold nK
 rw [aO (by rfl), aO (decide_eq_false (by show ¬ id < 1; omega)), aO (decide_eq_false (by show ¬ id > 65535; omega))]; rfl
theorem upS {c : client_Client} {I : List Int} {Up Dn : List aA} {N : Nat} {S : List aB} {s : Nat} (h : Inv c I Up Dn N S s) (x : Int) :
  ∃ I' Up' Dn' S', lR c (aH.mk I) Up Dn x S = some (aH.mk I', Up', Dn', x, S', true, c) ∧ Inv c I' Up' Dn' N S' s ∧ jV c Up' Dn' ≤ jV c Up Dn ∧ (Up ≠ [] → jV c Up' Dn' + 1 ≤ jV c Up Dn) ∧ (Up = [] → Up' = Up ∧ Dn' = Dn) := by
 obtain ⟨z1, z2, z3, z4, z5⟩ := h.zH
 cases Up with
 | nil => exact ⟨I, [], Dn, S, rfl, h, Nat.le_refl _, by simp, fun _ => ⟨rfl, rfl⟩⟩
 | cons p U =>
  simp only [List.length_cons] at z1
  have hn : ((List.length (p :: U) : Int) == 0) = false := by simp; omega
  have hc1 : decide (0 ≤ 0) = true := rfl
  have hc2 : decide (0 ≤ 1) = true := rfl
  have hc3 : decide ((1 : Int) ≤ (List.length (p :: U) : Int)) = true := by simp; omega
  have hc4 : decide ((0 : Int) < (List.length (p :: U) : Int)) = true := by simp
  have hgd : List.getD (p :: U) (Int.toNat 0) default = p := rfl
  have hcut : List.drop (Int.toNat 1) (p :: U) = U := rfl
  have hU : ∀ q ∈ U, UpOK q := fun q hq => h.up q (List.mem_cons_of_mem _ hq)
  have hb := h.inb
  have hmap : (p :: U).map tokP = tokP p :: U.map tokP := rfl
  have ht := h.tok
  rw [hmap] at ht
  unfold lR
  simp only [hn, hc1, hc2, hc3, hc4, hgd, hcut, Bool.and_self, bR, cG]
  obtain ⟨id, h0, h1, hp⟩ := h.up p (List.mem_cons_self ..)
  have gi : okI .i64 id := xT (by omega) (by omega)
  have dnk : ∀ k : Int, k = 5 ∨ k = 7 → ∀ q ∈ Dn ++ [eG k id], DnOK q := fun k hk q hq => by
   rcases List.mem_append.1 hq with hq | hq
   ·exact h.dn q hq
   ·rw [List.mem_singleton] at hq
    rw [hq]
    rcases hk with rfl | rfl
    ·exact ⟨id, h0, h1, .inl rfl⟩
    ·exact ⟨id, h0, h1, .inr rfl⟩
  have cst : ∀ (t u : Tk) (k : Int), tokP p = t → tokP (eG k id) = u → dnC [u] + 1 = upC [t] → jV c U (Dn ++ [eG k id]) + 1 = jV c (p :: U) Dn := fun t u k e1 e2 e3 => by
   unfold jV
   rw [List.map_append, aja, List.map_cons, List.map_nil, e2, hmap, e1]
   have : upC (t :: U.map tokP) = upC [t] + upC (U.map tokP) := afi [t] (U.map tokP)
   rw [this]; omega
  rcases hp with ⟨d, m, rfl, hm⟩ | rfl
  ·have k6 : ((iF id d m).Kind == 6) = false := rfl
   have hg : (iF id d m).good := agx gi hm.1.2
   rw [k6, cG, akU _ _ hg hb.1 (by have := hb.2; show I.length ≤ 1000; omega), aW]
   have et : tokP (iF id d m) = (false, id) := rfl
   rw [et] at ht
   by_cases hr : id ≤ (S.length : Int)
   ·obtain ⟨q1, q2⟩ := anw ht hr
    have ea := akE (d := d) h0 h1 hm q1
    have ea' : pS (aH.mk I).IDs (iF id d m) = _ := ea
    rw [ea']
    have cc := cst _ _ 5 et rfl rfl
    refine ⟨I, U, Dn ++ [eG 5 id], S, ?_, ⟨⟨h.snd, h.inb, h.seen, ?_⟩, h.st, h.full, hU, dnk 5 (.inl rfl)⟩, by omega, fun _ => by omega, by simp⟩
    ·show cond false _ _ = _
     rw [cG, aL (by simp; omega)]; rfl
    ·rw [List.map_append]; exact q2
   ·have hI : ∀ y, y ∈ gJ I id ↔ y = id ∨ y ∈ I := fun y => abd I id y
    obtain ⟨q1, q2, q3⟩ := akC ht (by omega) hI
    have hlt := alQ ht q2 hb.1 (by rw [List.length_map]; exact z2)
    have ea := ank (d := d) h0 h1 hm q2 hlt
    have ea' : pS (aH.mk I).IDs (iF id d m) = _ := ea
    rw [ea']
    have cc := cst _ _ 5 et rfl rfl
    refine ⟨gJ I id, U, Dn ++ [eG 5 id], S ++ [m], ?_, ⟨⟨h.snd, ⟨aa5 hb.1 (by omega) h1 q2, by rw [xU]; omega⟩, ?_, ?_⟩, h.st, h.full, hU, dnk 5 (.inl rfl)⟩, by omega, fun _ => by omega, by simp⟩
    ·show cond false _ _ = _
     rw [cG, aL (by simp; omega)]
     show cond true _ _ = _
     rw [bR, aL (by simp; omega)]; rfl
    ·intro i y hy
     by_cases hi : i < S.length
     ·rw [List.getElem?_append_left hi] at hy
      exact h.seen i y hy
     ·rw [List.getElem?_append_right (by omega)] at hy
      have : i - S.length = 0 := by
       rcases Nat.eq_zero_or_pos (i - S.length) with q | q
       ·exact q
       ·rw [List.getElem?_eq_none (by simp; omega)] at hy; cases hy
      rw [this] at hy
      have hy : m = y := by simpa using hy
      rw [← hy, show i = S.length by omega]
      exact ⟨by rw [hm.2.2.2, q1], hm.2.2.1⟩
    ·rw [List.map_append, List.length_append]; exact q3
  ·have k6 : ((mD id).Kind == 6) = true := rfl
   rw [k6, bR, ajT _ _ hb.1 (by have := hb.2; show I.length ≤ 1000; omega), aW]
   have er : nK (aH.mk I).IDs (mD id) = _ := akN (I := I) h0 h1
   rw [er]
   have et : tokP (mD id) = (true, id) := rfl
   rw [et] at ht
   have hI : ∀ y, y ∈ wB I id ↔ y ≠ id ∧ y ∈ I := fun y => by unfold wB; rw [List.mem_filter]; simp [and_comm]
   have q3 := amV ht hI
   have cc := cst _ _ 7 et rfl rfl
   refine ⟨wB I id, U, Dn ++ [eG 7 id], S, ?_, ⟨⟨h.snd, ⟨tX hb.1, by have := ahT I id; have := hb.2; omega⟩, h.seen, ?_⟩, h.st, h.full, hU, dnk 7 (.inr rfl)⟩, by omega, fun _ => by omega, by simp⟩
   ·rw [aL (by simp; omega)]; rfl
   ·rw [List.map_append]; exact q3
theorem amQ {c : client_Client} {I : List Int} {Up Dn : List aA} {N : Nat} {S : List aB} {s : Nat} (h : Inv c I Up Dn N S s) (x : Int) :
  ∃ c' Up' Dn' s', iE c (aH.mk I) Up Dn x S = some (aH.mk I, Up', Dn', x, S, true, c') ∧ Inv c' I Up' Dn' N S s' ∧ jV c' Up' Dn' ≤ jV c Up Dn ∧ (Dn ≠ [] → jV c' Up' Dn' + 1 ≤ jV c Up Dn) := by
 obtain ⟨z1, z2, z3, z4, z5⟩ := h.zH
 cases Dn with
 | nil => exact ⟨c, Up, [], s, rfl, h, Nat.le_refl _, by simp⟩
 | cons p D =>
  simp only [List.length_cons] at z1
  have hn : ((List.length (p :: D) : Int) == 0) = false := by simp; omega
  have hc1 : decide (0 ≤ 0) = true := rfl
  have hc2 : decide (0 ≤ 1) = true := rfl
  have hc3 : decide ((1 : Int) ≤ (List.length (p :: D) : Int)) = true := by simp; omega
  have hc4 : decide ((0 : Int) < (List.length (p :: D) : Int)) = true := by simp
  have hgd : List.getD (p :: D) (Int.toNat 0) default = p := rfl
  have hcut : List.drop (Int.toNat 1) (p :: D) = D := rfl
  have hD : ∀ q ∈ D, DnOK q := fun q hq => h.dn q (List.mem_cons_of_mem _ hq)
  have hmap : (p :: D).map tokP = tokP p :: D.map tokP := rfl
  have ht := h.tok
  rw [hmap] at ht
  have hc := h.snd
  have hw := hc.tot
  obtain ⟨id, h0, h1, hp⟩ := h.dn p (List.mem_cons_self ..)
  have hin : ∀ t : Tk, tokP p = t → ∃ f ∈ c.out.Items, tokF f = t := fun t e => by
   have := ht.aof (List.mem_cons_self ..)
   rw [e] at this
   exact List.mem_map.1 this
  unfold iE
  simp only [hn, hc1, hc2, hc3, hc4, hgd, hcut, Bool.and_self, bR, cG]
  have rest : ∀ (w : aG) (pre : List aA) (U : List Tk), bJ c p = Option.bind (bH (sD c w) pre) (fun r => some (r.1, [], 0, r.2)) → SndB (sD c w) s N → (∀ q ∈ pre, UpOK q) → pre.length ≤ 1 → U = Up.map tokP ++ pre.map tokP → TokI U (D.map tokP) (w.Items.map tokF) I S.length s → upC (pre.map tokP) + 1 = dnC [tokP p] →
    ∃ c' Up' Dn' s', (Option.bind (bJ c p) fun r0 =>
     cond (decide ((List.length Up + List.length r0.1) * 416 ≤ 140737488355328)) (
      cond (r0.2.2.1 == 0) (
       some ((aH.mk I, (Up ++ r0.1), D, x, S, ((List.length r0.2.1 : Int) == 0), r0.2.2.2))) (
      some ((aH.mk I, (Up ++ r0.1), D, x, S, false, r0.2.2.2)))) none) = some (aH.mk I, Up', Dn', x, S, true, c') ∧ Inv c' I Up' Dn' N S s' ∧ jV c' Up' Dn' ≤ jV c Up (p :: D) ∧ (p :: D ≠ [] → jV c' Up' Dn' + 1 ≤ jV c Up (p :: D)) := by
   intro w pre U e1 e2 e3 e4 e5 e6 e7
   obtain ⟨c', L, s', f1, f2, f3, f4, f5, f6, f7, f8⟩ := aft e2 h.st (pre := pre) (by omega) e6
   have hwt : (sD c w).waiting = c.waiting := rfl
   rw [hwt] at f7 f8
   have cc : jV c' (Up ++ (pre ++ L)) D + 1 = jV c Up (p :: D) := by
    unfold jV
    rw [List.map_append, List.map_append, afi, afi, hmap]
    have : dnC (tokP p :: D.map tokP) = dnC [tokP p] + dnC (D.map tokP) := aja [tokP p] (D.map tokP)
    rw [this]; omega
   refine ⟨c', Up ++ (pre ++ L), D, s', ?_, ⟨⟨f2, h.inb, h.seen, ?_⟩, by rw [f3]; exact h.st, f4, ?_, hD⟩, by omega, fun _ => by omega⟩
   ·rw [e1, f1]
    simp only [aW]
    rw [aL (by simp; omega)]; rfl
   ·rw [e5] at f5
    rw [List.map_append, List.map_append, ← List.append_assoc]
    exact f5
   ·intro q hq
    rcases List.mem_append.1 hq with hq | hq
    ·exact h.up q hq
    ·rcases List.mem_append.1 hq with hq | hq
     ·exact e3 q hq
     ·exact f6 q hq
  rcases hp with rfl | rfl
  ·obtain ⟨g, hg, eg⟩ := hin (false, id) rfl
   obtain ⟨A, f, B, a1, a2, a3, a4⟩ := ai2 hc.ok.out ⟨g, hg, congrArg Prod.snd eg⟩
   have hf : f ∈ c.out.Items := by rw [a1]; simp
   have ef : tokF f = (false, id) := ht.uniq (List.mem_map.2 ⟨f, hf, rfl⟩) (by rw [← eg]; exact List.mem_map.2 ⟨g, hg, rfl⟩) a2
   obtain ⟨⟨m1, m2, m3, m4⟩, m5, m6⟩ := hc.items f hf
   have hw2 := a3 m2
   have hl : (mM c.out A f B).Items.length = c.out.Items.length := by rw [a1]; simp [mM]
   refine rest (mM c.out A f B) [mD id] _ ?_ ?_ ?_ (by simp) rfl ?_ rfl
   ·rw [ah4 h.st (.inl rfl) h0 h1]
    unfold dH
    rw [hw2]; rfl
   ·refine ⟨⟨hc.ok.toCOK.wo (aiD hc.ok.out a1 (by rw [m2]; decide)) (by rw [hl]; exact hc.ok.tot), hc.ok.l1⟩, hc.name, ?_, hc.last, hc.used, ?_, hc.wait, hc.cnt, hc.tot, hc.small⟩
    ·show ((mM c.out A f B).Items.length : Int) ≤ c.out.Limit
     rw [hl]; exact hc.le
    ·intro y hy
     have hy : y ∈ A ++ aC.mk f.ID 2 f.Message :: B := hy
     rcases List.mem_append.1 hy with hy | hy
     ·exact hc.items y (by rw [a1]; simp [hy])
     ·rcases List.mem_cons.1 hy with rfl | hy
      ·exact ⟨⟨m1, m2, m3, m4⟩, m5, m6⟩
      ·exact hc.items y (by rw [a1]; simp [hy])
   ·intro q hq
    rw [List.mem_singleton] at hq
    exact ⟨id, h0, h1, .inr hq⟩
   ·have hF : c.out.Items.map tokF = A.map tokF ++ (false, id) :: B.map tokF := by rw [a1, List.map_append, List.map_cons, ef]
    have := am7 ht hF
    have e2 : (mM c.out A f B).Items.map tokF = A.map tokF ++ (true, id) :: B.map tokF := by
     show (A ++ aC.mk f.ID 2 f.Message :: B).map tokF = _
     rw [List.map_append, List.map_cons, show f.ID = id from a2]; rfl
    rw [e2]; exact this
  ·obtain ⟨g, hg, eg⟩ := hin (true, id) rfl
   obtain ⟨A, f, B, a1, a2, a3, a4⟩ := ai2 hc.ok.out ⟨g, hg, congrArg Prod.snd eg⟩
   have hf : f ∈ c.out.Items := by rw [a1]; simp
   have ef : tokF f = (true, id) := ht.uniq (List.mem_map.2 ⟨f, hf, rfl⟩) (by rw [← eg]; exact List.mem_map.2 ⟨g, hg, rfl⟩) a2
   have hst : f.State = 2 := by simpa [tokF] using congrArg Prod.fst ef
   have hw2 := a4 hst
   have hl : (kY c.out A f B).Items.length + 1 = c.out.Items.length := by rw [a1]; simp [kY]; omega
   refine rest (kY c.out A f B) [] _ ?_ ?_ (by simp) (by simp) rfl ?_ rfl
   ·rw [ah4 h.st (.inr rfl) h0 h1]
    unfold dH
    rw [hw2]; rfl
   ·refine ⟨⟨hc.ok.toCOK.wo (aj6 hc.ok.out a1) (by have := hc.ok.tot; omega), hc.ok.l1⟩, hc.name, ?_, hc.last, ?_, ?_, hc.wait, hc.cnt, hc.tot, hc.small⟩
    ·show ((kY c.out A f B).Items.length : Int) ≤ c.out.Limit
     have := hc.le; omega
    ·intro y hy
     exact hc.used y (List.mem_filter.1 hy).1
    ·intro y hy
     have hy : y ∈ A ++ B := hy
     rcases List.mem_append.1 hy with hy | hy
     ·exact hc.items y (by rw [a1]; simp [hy])
     ·exact hc.items y (by rw [a1]; simp [hy])
   ·have hF : c.out.Items.map tokF = A.map tokF ++ (true, id) :: B.map tokF := by rw [a1, List.map_append, List.map_cons, ef]
    have := al8 ht hF
    have e2 : (kY c.out A f B).Items.map tokF = A.map tokF ++ B.map tokF := by
     show (A ++ B).map tokF = _
     rw [List.map_append]
    rw [e2, List.map_nil, List.append_nil]; exact this
end Md
end PX
set_option linter.unusedVariables false
set_option linter.unusedSimpArgs false
namespace PX
open Go
namespace Md
theorem akL (f : aC) : tokP (g6 f) = tokF f := by
 unfold g6 tokF
 cases f.State == 2 <;> rfl
theorem amK {c : client_Client} {I : List Int} {U D : List Tk} {N : Nat} {S : List aB} {s : Nat} (h : Pre c I U D N S s) (Up Dn : List aA) (x : Int) :
  ∃ c' Up' s', iD c (aH.mk I) Up Dn x S = some (aH.mk I, Up', [], x, S, true, c') ∧ Inv c' I Up' [] N S s' := by
 have hc := h.snd
 have hil := hc.ok.out.len
 have hw := hc.tot
 have h6 := hc.small
 have c0 : LOK (nC c 0) := ⟨hc.ok.toCOK.ws 0, hc.ok.l1⟩
 have c1 : LOK (nC c 1) := ⟨hc.ok.toCOK.ws 1, hc.ok.l1⟩
 have e1 := amh c0 rfl (by show oI c.name = true; rw [hc.name]; rfl)
 have e1' : eE (client_Client.mk c.name 0 c.out c.in_ c.waiting c.count c.last) false (aT.mk false 0 (aB.mk ([] : Str) ([] : Str) 0 false 0 0 ([] : Str) 0 ([] : List aE))) = some ([aaP c.name c.out.Limit], 0, nC c 1) := e1
 have e2 := alw c1 rfl
 have hs2 : SndB (nC c 2) s N := ⟨⟨hc.ok.toCOK.ws 2, hc.ok.l1⟩, hc.name, hc.le, hc.last, hc.used, hc.items, hc.wait, hc.cnt, hc.tot, hc.small⟩
 obtain ⟨c', L, s', f1, f2, f3, f4, f5, f6, f7, f8⟩ := aft hs2 rfl (pre := c.out.Items.map g6) (by rw [List.length_map]; omega) (amg h.tok)
 have hwt : (nC c 2).waiting = c.waiting := rfl
 rw [hwt] at f8
 have e2' : bJ (nC c 1) (aA.mk 2 0 false (aB.mk ([] : Str) ([] : Str) 0 false 0 0 ([] : Str) 0 ([] : List aE)) ([] : Str) ([] : Str) false 0 0 0 (aT.mk false 0 (aB.mk ([] : Str) ([] : Str) 0 false 0 0 ([] : Str) 0 ([] : List aE))) true 0 ([] : List aN) ([] : List Str) ([] : List Int)) = some (c.out.Items.map g6 ++ L, [], 0, c') := by
  show bJ (nC c 1) xR = _
  rw [e2]
  show Option.bind (bH (nC c 2) (c.out.Items.map g6)) _ = _
  rw [f1]; rfl
 have htk : (c.out.Items.map g6).map tokP = c.out.Items.map tokF := by
  rw [List.map_map]
  exact List.map_congr_left fun f _ => akL f
 refine ⟨c', c.out.Items.map g6 ++ L, s', ?_, ⟨f2, h.inb, h.seen, ?_⟩, by rw [f3]; rfl, f4, ?_, by simp⟩
 ·unfold iD kW l8
  rw [aW, e1']
  simp only [aW]
  rw [aO (by rfl), aO (by rfl), e2']
  simp only [aW]
  rw [aL (by simp; omega)]; rfl
 ·rw [List.map_append, htk]; exact f5
 ·intro p hp
  rcases List.mem_append.1 hp with hp | hp
  ·obtain ⟨f, hf, rfl⟩ := List.mem_map.1 hp
   obtain ⟨m1, m2, m3⟩ := hc.items f hf
   refine ⟨f.ID, m2, m3, ?_⟩
   unfold g6
   cases f.State == 2
   ·exact .inl ⟨true, f.Message, rfl, m1⟩
   ·exact .inr rfl
  ·exact f6 p hp
def j7 (pay : Str) : aB := aB.mk ([116] : Str) pay 2 false 0 0 ([] : Str) 0 ([] : List aE)
theorem ame {c : client_Client} {I : List Int} {Up Dn : List aA} {N : Nat} {S : List aB} {s : Nat} (h : Inv c I Up Dn N S s) (hN : N < 60) {pay : Str} (hp : pay.length ≤ 256) :
  ∃ c' L s', cQ c (j7 pay) = some (L, 0, c') ∧ Inv c' I (Up ++ L) Dn (N + 1) S s' ∧ L.length ≤ 100 := by
 have hc := h.snd
 have hw := hc.tot
 have hil := hc.ok.out.len
 have z : okI .i64 0 := eW (by decide) (by decide)
 have g : (j7 pay).good := ⟨kL (by simp [j7]), kL (by show pay.length ≤ _; omega), eW (x := 2) (by decide) (by decide), z, z, kL (by simp [j7]), z, gU⟩
 have hg := agy hc.ok.toCOK g
 have hf := qL hg
 have sq : (oD c (j7 pay)).Seq = ((N + 1 : Nat) : Int) := by
  show IntKind.wrap .i64 (c.count + 1) = _
  rw [hc.cnt, cI (by omega)]
 have hz : eQ (oD c (j7 pay)) = 0 := by
  have r1 : eD 0 1099511627776 (oD c (j7 pay)).Seq = true := by rw [sq, uY]; omega
  have fr : (oD c (j7 pay)).From = [97] := hc.name
  unfold eQ
  rw [r1, fr, aL (by rfl), aO (decide_eq_false (by show ¬ 256 < (pay.length : Int); omega)), aL (by rfl), aL (by rfl), aL (by rfl), aO (by rfl), aL (by rfl)]
  rfl
 have e1 : eN (aB.mk (j7 pay).Topic (j7 pay).Payload (j7 pay).Level (j7 pay).Retain (j7 pay).Priority (j7 pay).Expires c.name (IntKind.wrap .i64 (c.count + 1)) (j7 pay).Props) = some (eQ (oD c (j7 pay))) := j6 _ hf
 have hS : SndB (adP c (oD c (j7 pay))) s (N + 1) → True := fun _ => trivial
 have hmo : MsgO (oD c (j7 pay)) ((N + 1 : Nat) : Int) := ⟨⟨hz, hg⟩, rfl, hc.name, sq⟩
 have hs2 : SndB (adP c (j7 pay)) s (N + 1) := by
  refine ⟨⟨⟨hc.ok.name, hc.ok.out, hc.ok.inb, fun x hx => ?_, ?_⟩, hc.ok.l1⟩, hc.name, hc.le, hc.last, hc.used, hc.items, fun i m hi => ?_, sq, ?_, by omega⟩
  ·have hx : x ∈ c.waiting ++ [oD c (j7 pay)] := hx
   rcases List.mem_append.1 hx with hx | hx
   ·exact hc.ok.wait x hx
   ·rw [List.mem_singleton] at hx; rw [hx]; exact ⟨hz, hg⟩
  ·show (c.waiting ++ [oD c (j7 pay)]).length + c.out.Items.length ≤ 288
   simp; omega
  ·have hi : (c.waiting ++ [oD c (j7 pay)])[i]? = some m := hi
   by_cases hl : i < c.waiting.length
   ·rw [List.getElem?_append_left hl] at hi
    exact hc.wait i m hi
   ·rw [List.getElem?_append_right (by omega)] at hi
    have : i - c.waiting.length = 0 := by
     rcases Nat.eq_zero_or_pos (i - c.waiting.length) with q | q
     ·exact q
     ·rw [List.getElem?_eq_none (by simp; omega)] at hi; cases hi
    rw [this] at hi
    have hi : oD c (j7 pay) = m := by simpa using hi
    rw [← hi, show s + 1 + i = N + 1 by omega]
    exact hmo
  ·show s + (c.waiting ++ [oD c (j7 pay)]).length = N + 1
   simp; omega
 obtain ⟨c', L, s', f1, f2, f3, f4, f5, f6, f7, f8⟩ := aft hs2 h.st (pre := []) (by simp) h.tok
 refine ⟨c', L, s', ?_, ⟨⟨f2, h.inb, h.seen, ?_⟩, by rw [f3]; exact h.st, f4, ?_, h.dn⟩, ?_⟩
 ·unfold cQ
  rw [sX (by show (0 : Nat) ≤ 1000; omega), aW, e1, aW, hz, aO (by rfl), aO (decide_eq_false (by omega)), af7 (by omega), aW, aL (by simp; omega)]
  show Option.bind (bH (adP c (j7 pay)) []) _ = _
  rw [f1]; rfl
 ·rw [List.map_append]; exact f5
 ·intro p hp
  rcases List.mem_append.1 hp with hp | hp
  ·exact h.up p hp
  ·exact f6 p hp
 ·have : (adP c (j7 pay)).waiting.length = c.waiting.length + 1 := by show (c.waiting ++ [oD c (j7 pay)]).length = _; simp
  omega
theorem af4 {S : List aB} (h : ∀ (i : Nat) (m : aB), S[i]? = some m → m.Seq = ((i + 1 : Nat) : Int) ∧ m.From = [97]) (hl : S.length ≤ 1000) : gZ S = some true := by
 unfold gZ
 refine v5 (l := S) (F := fun fu i => eS fu S i) (g := fun _ => some true) (fun fu => ?_) (fun fu i hi ih => ?_) (by omega)
 ·rw [eS, aO (by simp)]
 ·obtain ⟨h1, h2⟩ := h i S[i] (List.getElem?_eq_getElem hi)
  rw [eS, aL (pA hi)]
  simp only [aL (inr hi), eT hi]
  rw [cI (i := i) (by omega), h1, h2, aO (by simp), aO (by rfl), ih]
theorem Inv.done {c : client_Client} {I : List Int} {Up Dn : List aA} {N : Nat} {S : List aB} {s : Nat} (h : Inv c I Up Dn N S s) (h1 : c.out.Items = []) (h2 : c.waiting = []) : S.length = N := by
 have := (ale h.tok (by rw [h1]; rfl)).2.2
 have e := h.snd.tot
 rw [h2] at e
 simp at e; omega
theorem ak1 {c : client_Client} {I : List Int} {Up Dn : List aA} {N : Nat} {S : List aB} {s : Nat} (h : Inv c I Up Dn N S s) : dC c = some (((c.out.Items.length + c.waiting.length : Nat) : Int), c) := by
 obtain ⟨z1, z2, z3, z4, z5⟩ := h.zH
 have := h.snd.tot
 unfold dC
 rw [w64 (by omega) (by omega)]; simp
theorem anh {c : client_Client} {I : List Int} {Up Dn : List aA} {N : Nat} {S : List aB} {s : Nat} (h : Inv c I Up Dn N S s)
  (k : (List aD) → Bool → Int → client_Client → (List Int) → Int → (List aA) → (List aA) → (List aB) → Option (Bool)) (l : List aD) (x a d : Int) (b : List aD) (e : Bool) :
  cA k l true x a b d e c I (N : Int) Up Dn S = k l true (IntKind.wrap .i64 (x + 1)) c I (N : Int) Up Dn S := by
 obtain ⟨z1, z2, z3, z4, z5⟩ := h.zH
 unfold cA
 rw [bR, af4 h.seen (by omega), aW, bR, aL (decide_eq_true (by omega)), ak1 h, aW]
 by_cases hz : c.out.Items.length + c.waiting.length = 0
 ·have h1 : c.out.Items = [] := List.eq_nil_of_length_eq_zero (by omega)
  have h2 : c.waiting = [] := List.eq_nil_of_length_eq_zero (by omega)
  have := h.done h1 h2
  rw [aO (decide_eq_false (by show ¬ (((c.out.Items.length + c.waiting.length : Nat) : Int) > 0); omega)), this]
  simp
 ·rw [aL (decide_eq_true (by show (((c.out.Items.length + c.waiting.length : Nat) : Int) > 0); omega))]
theorem Inv.amC {c : client_Client} {I : List Int} {Up Dn : List aA} {N : Nat} {S : List aB} {s : Nat} (h : Inv c I Up Dn N S s) (hU : Up = []) (hD : Dn = []) : c.out.Items = [] ∧ c.waiting = [] := by
 have z := h.zH.1
 rw [hU, hD] at z
 simp only [List.length_nil] at z
 have h1 : c.out.Items = [] := List.eq_nil_of_length_eq_zero (by omega)
 refine ⟨h1, ?_⟩
 rcases h.full with q | q
 ·rw [h1] at q
  have := h.snd.ok.l1
  simp only [List.length_nil] at q; omega
 ·exact q
theorem amd {U : List Tk} (h : upC U = 0) : U = [] := by
 cases U with
 | nil => rfl
 | cons t U =>
  simp only [upC, List.map_cons, List.sum_cons] at h
  cases ht : t.1 <;> rw [ht] at h <;> simp at h
theorem alM {U : List Tk} (h : dnC U = 0) : U = [] := by
 cases U with
 | nil => rfl
 | cons t U =>
  simp only [dnC, List.map_cons, List.sum_cons] at h
  cases ht : t.1 <;> rw [ht] at h <;> simp at h
theorem aoE (l : List aD) (hl : l.length ≤ 60) (N : Nat) : ∀ (R i fu s : Nat) (c : client_Client) (I : List Int) (Up Dn : List aA) (S : List aB), i + R = 4 * l.length + 80 → R < fu → Inv c I Up Dn N S s → jV c Up Dn ≤ R →
  dR fu l true (i : Int) c I (N : Int) Up Dn S = some true := by
 have hw : IntKind.wrap .i64 ((IntKind.wrap .i64 (4 * (List.length l : Int))) + 80) = ((4 * l.length + 80 : Nat) : Int) := by
  rw [w64 (x := 4 * (List.length l : Int)) (by omega) (by omega), w64 (by omega) (by omega)]; omega
 intro R
 induction R with
 | zero =>
  intro i fu s c I Up Dn S hi hf h hc
  obtain ⟨fu, rfl⟩ : ∃ n, fu = n + 1 := ⟨fu - 1, by omega⟩
  obtain ⟨z1, z2, z3, z4, z5⟩ := h.zH
  have hz : 4 * c.waiting.length + upC (Up.map tokP) + dnC (Dn.map tokP) ≤ 0 := hc
  have hU : Up = [] := List.map_eq_nil_iff.1 (amd (U := Up.map tokP) (by omega))
  have hD : Dn = [] := List.map_eq_nil_iff.1 (alM (U := Dn.map tokP) (by omega))
  obtain ⟨h1, h2⟩ := h.amC hU hD
  have hd := h.done h1 h2
  have hL : dC c = some (0, c) := by rw [ak1 h, h1, h2]; rfl
  rw [dR, hw, bR, aO (decide_eq_false (by omega))]
  unfold fJ
  rw [ai0, aW, bR, bR, hL, aW, aL (by rfl), aL (by rw [hd]; simp), af4 h.seen (by omega)]; rfl
 | succ R ih =>
  intro i fu s c I Up Dn S hi hf h hc
  obtain ⟨fu, rfl⟩ : ∃ n, fu = n + 1 := ⟨fu - 1, by omega⟩
  rw [dR, hw, bR, aL (decide_eq_true (by omega))]
  obtain ⟨I1, U1, D1, S1, a1, a2, a3, a4, a5⟩ := upS h (N : Int)
  obtain ⟨c2, U2, D2, s2, b1, b2, b3, b4⟩ := amQ a2 (N : Int)
  unfold g9
  rw [a1, aW]
  show cond true _ _ = _
  rw [bR]
  show Option.bind (iE c (aH.mk I1) U1 D1 (N : Int) S1) _ = _
  rw [b1, aW, cI (by omega)]
  refine ih (i + 1) fu s2 c2 I1 U2 D2 S1 (by omega) (by omega) b2 ?_
  by_cases hU : Up = []
  ·by_cases hD : Dn = []
   ·obtain ⟨h1, h2⟩ := h.amC hU hD
    have : jV c Up Dn = 0 := by unfold jV; rw [hU, hD, h2]; rfl
    omega
   ·obtain ⟨_, q⟩ := a5 hU
    have := b4 (by rw [q]; exact hD)
    omega
  ·have := a4 hU
   omega
theorem anR (l : List aD) (hl : l.length ≤ 60) : ∀ (k i fu N s : Nat) (c : client_Client) (I : List Int) (Up Dn : List aA) (S : List aB), i + k = l.length → k < fu → N ≤ i → Inv c I Up Dn N S s →
  dF fu l true (i : Int) c I (N : Int) Up Dn S = some true := by
 intro k
 induction k with
 | zero =>
  intro i fu N s c I Up Dn S hi hf hN h
  obtain ⟨fu, rfl⟩ : ∃ n, fu = n + 1 := ⟨fu - 1, by omega⟩
  obtain ⟨z1, z2, z3, z4, z5⟩ := h.zH
  have ht := h.snd.tot
  have hcl := h.tok.cl
  rw [List.length_map] at hcl
  have hcost := ad2 (Up.map tokP) (Dn.map tokP)
  rw [List.length_map, List.length_map] at hcost
  rw [dF, bR, aO (s0 (by omega))]
  exact aoE l hl N (4 * l.length + 80) 0 fuel s c I Up Dn S (by omega) (by rw [kT]; omega) h (by unfold jV; omega)
 | succ k ih =>
  intro i fu N s c I Up Dn S hi hf hN h
  obtain ⟨fu, rfl⟩ : ∃ n, fu = n + 1 := ⟨fu - 1, by omega⟩
  obtain ⟨z1, z2, z3, z4, z5⟩ := h.zH
  have hlt : i < l.length := by omega
  have next : ∀ {N' s' : Nat} {c' : client_Client} {I' : List Int} {Up' Dn' : List aA} {S' : List aB} (a d : Int) (b : List aD) (e : Bool), N' ≤ i + 1 → Inv c' I' Up' Dn' N' S' s' → cA (dF fu) l true (i : Int) a b d e c' I' (N' : Int) Up' Dn' S' = some true := fun a d b e hN' h' => by
   rw [anh h', cI (by omega)]
   exact ih (i + 1) fu _ _ _ _ _ _ _ (by omega) (by omega) hN' h'
  rw [dF, bR, aL (pA hlt)]
  unfold hJ
  simp only [aL (inr hlt), eT hlt]
  cases k0 : l[i].Kind == 0 with
  | true =>
   rw [bR]
   by_cases hp : (l[i].Payload.length : Int) ≤ 256
   ·rw [aL (decide_eq_true hp)]
    obtain ⟨c', L, s', e1, e2, e3⟩ := ame h (by omega) (pay := l[i].Payload) (by omega)
    have e1' : cQ c (aB.mk ([116] : Str) l[i].Payload 2 false 0 0 ([] : Str) 0 ([] : List aE)) = some (L, 0, c') := e1
    rw [e1', aW, aL (by simp; omega), cI (i := N) (by omega)]
    exact next _ _ _ _ (by omega) e2
   ·rw [aO (decide_eq_false hp)]
    exact next _ _ _ _ (by omega) h
  | false =>
   rw [cG]
   cases k1 : l[i].Kind == 1 with
   | true =>
    obtain ⟨I1, U1, D1, S1, a1, a2, _⟩ := upS h (N : Int)
    rw [bR, a1, aW]
    exact next _ _ _ _ (by omega) a2
   | false =>
    rw [cG]
    cases k2 : l[i].Kind == 2 with
    | true =>
     obtain ⟨c2, U2, D2, s2, b1, b2, _⟩ := amQ h (N : Int)
     rw [bR, b1, aW]
     exact next _ _ _ _ (by omega) b2
    | false =>
     rw [cG]
     cases k3 : l[i].Kind == 3 with
     | true =>
      obtain ⟨c2, U2, s2, b1, b2⟩ := amK h.toPre Up Dn (N : Int)
      rw [bR, b1, aW]
      exact next _ _ _ _ (by omega) b2
     | false =>
      rw [cG]
      exact next _ _ _ _ (by omega) h
theorem wA (p0 : Int) (p1 : (List aD)) (g0 : D.okL [.int .i64] ([D.int .i64 p0])) (g1 : D.okL [.sl aD.ks] ([D.sl aD.ks (List.map aD.enc p1)])) : kA p0 p1 = some true := by
 unfold kA iM
 rw [ai0]
 simp only [aW]
 by_cases h0 : p0 < 1
 ·rw [aL (decide_eq_true h0)]
 ·rw [aO (decide_eq_false h0)]
  by_cases h1 : p0 > 32
  ·rw [aL (decide_eq_true h1)]
  ·rw [aO (decide_eq_false h1)]
   by_cases hl : (List.length p1 : Int) > 60
   ·rw [aL (decide_eq_true hl)]
   ·rw [aO (decide_eq_false hl)]
    have hs : okS ([97] : Str) := kL (by simp)
    rw [apn hs (by rfl) (by omega) (by omega), anl]
    rw [aO (by rfl)]
    have pre : Pre (ain [97] p0) [] [] [] 0 [] 0 := by
     refine ⟨⟨anH hs (by omega) (by omega), rfl, by show (0 : Int) ≤ p0; omega, rfl, (by intro y hy; cases hy), (by intro f hf; cases hf), (fun i m hi => by cases hi), rfl, rfl, by omega⟩, ⟨rfl, Nat.zero_le _⟩, (fun i m hi => by cases hi), ?_⟩
     exact ⟨.refl _, List.nodup_nil, Nat.le_refl _, (by intro t ht; cases ht), Nat.le_refl _, rfl, rfl, (by intro t ht; cases ht), (by intro t ht; cases ht), (by intro t ht; cases ht), (by intro t ht; cases ht), (by intro t ht; cases ht)⟩
    obtain ⟨c', U', s', e1, e2⟩ := amK pre [] [] 0
    unfold iN
    show Option.bind (iD (ain [97] p0) (aH.mk []) [] [] 0 []) _ = _
    rw [e1, aW]
    exact anR p1 (by omega) p1.length 0 fuel 0 s' c' [] U' [] [] (by omega) (by rw [kT]; omega) (Nat.le_refl _) e2
end Md
end PX
