import Derived.Test.YtmcpanmcgpjfiaaGreatDoorNumD
import Derived.Test.YtmcpanmcgpjfiaaGreatDoorSeatA
set_option linter.unusedVariables false
set_option linter.unusedSimpArgs false
namespace PX
open Go
namespace Md
theorem apn {α : Type} {l : List α} {F : Nat → Int → List Int → Option (List Int)} {f : α → List Int} (T : List Int) (P : α → Prop) (hP : ∀ x ∈ l, P x) (hl : l.length ≤ 1000) (hf : ∀ x, P x → (f x).length ≤ 40000000)
  (h0 : ∀ fu w, w.length ≤ 350000000000 → F (fu + 1) (l.length : Int) w = some (w ++ T))
  (h1 : ∀ fu i w (hi : i < l.length), P l[i] → w.length ≤ 800000000000 → F (fu + 1) (i : Int) w = F fu ((i + 1 : Nat) : Int) (w ++ f l[i])) (b : List Int) (hb : b.length ≤ 300000000000) :
  F fuel 0 b = some (b ++ (l.flatMap f ++ T)) := by
 refine jY (l := l) (F := F) (g := fun r w => some (w ++ (r.flatMap f ++ T))) (fun i w => w.length ≤ 300000000000 + i * 40000000) (fun fu w hw => by rw [h0 _ _ (by omega)]; simp) (fun fu i w hi hw ih => ?_) (by omega) b (by omega)
 have hp := hP _ (List.getElem_mem hi)
 have := hf _ hp
 rw [h1 fu i w hi hp (by omega), ih _ (by simp only [List.length_append]; omega)]
 simp [-List.getElem_cons_drop]
def afZ (s : aI) : List Int := j3 fX s.Out.Pool.Used ++ (fX s.Out.Pool.Last ++ (j3 fX s.In.IDs ++ (fX (aeC s.Will.Set) ++ ail s.Will)))
theorem az9 {s : aI} (h : afh s) (b : List Int) (hb : b.length ≤ 300000000000) : fN fuel s.Out.Items (s.Out.Items.length : Int) 0 s b = some (b ++ (s.Out.Items.flatMap nR ++ afZ s)) := by
 obtain ⟨g1, g2, g3, g4, g5, g6, g7, g8, ⟨g9, g10, g11, g12⟩, g13, g14, g15⟩ := h.g
 have n5 := cA s.Out.Pool.Last
 have n6 := cA (aeC s.Will.Set)
 have n7 := cA s.Will.Delay
 have l4 := w8 fX h.us fun x hx => by have := cA x; omega
 have l5 := w8 fX h.ids fun x hx => by have := cA x; omega
 exact apn (F := fun fu i w => fN fu s.Out.Items (s.Out.Items.length : Int) i s w) (f := nR) (afZ s) (fun x => Brief x.Message ∧ x.good) (fun x hx => ⟨h.ik x hx, g10.2 x hx⟩) h.iN (fun x h => aey h.1)
  (fun fu w hw => by
   rw [fN, aY (by simp), aiV _ h.us g11.2 (by omega), bB, dA _ g12 (by simp only [List.length_append]; omega), bB, aiV _ h.ids g13.2 (by simp only [List.length_append]; omega), bB, ajf, bB, dA _ (aiB _) (by simp only [List.length_append]; omega), bB]
   cases hs : s.Will.Set with
   | false => simp [afZ, ail, hs]
   | true => rw [dE, dA _ g14 (by rw [hs] at n6; simp only [List.length_append]; omega), bB, ab4 _ (h.wl hs) (by rw [hs] at n6; simp only [List.length_append]; omega), bB]; simp [afZ, ail, hs])
  (fun fu i w hi hp hw => by
   have a := cA s.Out.Items[i].ID
   have c := cA s.Out.Items[i].State
   rw [fN, aO (eM hi), aO (inr hi), bZ hi, dA _ hp.2.1 (by omega), bB, dA _ hp.2.2.1 (by simp only [List.length_append]; omega), bB, ab4 _ hp.1 (by simp only [List.length_append]; omega), bB, bW (by have := h.iN; omega)]
   simp [nR]) b hb
theorem aCQ {s : aI} (h : afh s) (b : List Int) (hb : b.length ≤ 200000000000) : fP fuel s.Queue (s.Queue.length : Int) 0 s b = some (b ++ (s.Queue.flatMap yB ++ (fX s.Out.Limit ++ (j3 nR s.Out.Items ++ afZ s)))) := by
 obtain ⟨g1, g2, g3, g4, g5, g6, g7, g8, ⟨g9, g10, g11, g12⟩, g13, g14, g15⟩ := h.g
 have n4 := cA s.Out.Limit
 have n8 := cA (s.Out.Items.length : Int)
 have hn := h.iN
 refine jY (l := s.Queue) (F := fun fu i w => fP fu s.Queue (s.Queue.length : Int) i s w) (g := fun r w => some (w ++ (r.flatMap yB ++ (fX s.Out.Limit ++ (j3 nR s.Out.Items ++ afZ s))))) (fun i w => w.length ≤ 200000000000 + i * 40000000)
  (fun fu w hw => by
   have hq := h.qn
   rw [fP, aY (by simp), dA _ g9 (by omega), bB, dA _ (vH (by omega)) (by simp only [List.length_append]; omega), bB, az9 h _ (by simp only [List.length_append]; omega)]
   simp [j3])
  (fun fu i w hi hw ih => by
   have hq := h.qn
   have hm := h.qk _ (List.getElem_mem hi)
   have := agp hm
   rw [fP, aO (eM hi), aO (inr hi), bZ hi, ab4 _ hm (by omega), bB, bW (by omega), ih _ (by simp only [List.length_append]; omega)]
   simp [-List.getElem_cons_drop]) (by have := h.qn; omega) b (by omega)
theorem aDn {s : aI} (h : afh s) (b : List Int) (hb : b.length ≤ 100000000000) : gN fuel s.Subs (s.Subs.length : Int) 0 s b = some (b ++ (s.Subs.flatMap adF ++ (j3 yB s.Queue ++ (fX s.Out.Limit ++ (j3 nR s.Out.Items ++ afZ s))))) := by
 obtain ⟨g1, g2, g3, g4, g5, g6, g7, g8, ⟨g9, g10, g11, g12⟩, g13, g14, g15⟩ := h.g
 have n8 := cA (s.Queue.length : Int)
 have hn := h.qn
 refine jY (l := s.Subs) (F := fun fu i w => gN fu s.Subs (s.Subs.length : Int) i s w) (g := fun r w => some (w ++ (r.flatMap adF ++ (j3 yB s.Queue ++ (fX s.Out.Limit ++ (j3 nR s.Out.Items ++ afZ s)))))) (fun i w => w.length ≤ 100000000000 + i * 40000000)
  (fun fu w hw => by
   have hq := h.sn
   rw [gN, aY (by simp), dA _ (vH (by omega)) (by omega), bB, aCQ h _ (by simp only [List.length_append]; omega)]
   simp [j3])
  (fun fu i w hi hw ih => by
   have hq := h.sn
   have hm := h.sk _ (List.getElem_mem hi)
   have a := gQ s.Subs[i].Filter
   have c := cA s.Subs[i].Level
   have d := cA (aeC s.Subs[i].NoLocal)
   rw [gN, aO (eM hi)]
   simp only [aO (inr hi), bZ hi]
   rw [lN _ (by omega) (by omega), bB, dA _ (g7.2 _ (List.getElem_mem hi)).2 (by simp only [List.length_append]; omega), bB, ajf, bB, dA _ (aiB _) (by simp only [List.length_append]; omega), bB, bW (by omega), ih _ (by simp only [List.length_append]; omega)]
   simp [adF, -List.getElem_cons_drop]) (by have := h.sn; omega) b (by omega)
theorem asA {s : aI} (h : afh s) : oK s = some (aiz s) := by
 obtain ⟨g1, g2, g3, g4, g5, g6, g7, g8, ⟨g9, g10, g11, g12⟩, g13, g14, g15⟩ := h.g
 have t1 := gQ s.Client
 have t2 := gQ s.User
 have n1 := cA s.Expiry
 have n2 := cA s.Until
 have n3 := cA s.Dropped
 have n4 := cA (s.Subs.length : Int)
 have c1 := h.c
 have c2 := h.u
 have c3 := h.sn
 unfold oK
 rw [lN _ (by omega) (by simp), bB, List.nil_append, lN _ (by omega) (by omega), bB, dA _ g4 (by simp only [List.length_append]; omega), bB, dA _ g5 (by simp only [List.length_append]; omega), bB, dA _ g6 (by simp only [List.length_append]; omega), bB, dA _ (vH (by omega)) (by simp only [List.length_append]; omega), bB, aDn h _ (by simp only [List.length_append]; omega)]
 simp [aiz, j3, afZ]
theorem akI : ∀ {l : List aK} {p : Option Str}, tC p l = 0 → ∀ x ∈ l, x.Filter.length ≤ 1000
 | [], _, _, _, h => by cases h
 | y :: r, p, h, x, hx => by
  rw [tC] at h
  by_cases e : acO y = 0
  ·rw [aO (by simpa using e)] at h
   have h2 := cz2 h (by decide)
   rcases List.mem_cons.1 hx with rfl | hx
   ·unfold acO at e
    cases hw : zO x.Filter with
    | true => exact aqW hw
    | false => rw [hw] at e; cases e
   ·exact akI h2 x hx
  ·rw [aY (by simpa using e)] at h; exact absurd h e
theorem amB {s : aI} (g : s.good) (h : qV s = 0) : afh s := by
 obtain ⟨h1, h2, h3, h4, h5, h6⟩ := ajh h
 obtain ⟨a1, a2⟩ := akx h3
 obtain ⟨s1, s2⟩ := amx h2
 obtain ⟨w1, w2, w3⟩ := aow h4
 have hp := (agA w1).1
 have hi := (ai8 h5).1
 have hc : hY s.Client = true ∧ (s.User == [] || hY s.User) = true := by
  unfold aeh at h1
  cases e1 : hY s.Client with
  | false => rw [e1] at h1; cases h1
  | true =>
   rw [e1, dE] at h1
   cases e2 : (s.User == [] || hY s.User) with
   | false => rw [e2] at h1; cases h1
   | true => exact ⟨rfl, rfl⟩
 have hu : s.User.length ≤ 1000 := by
  rcases Bool.or_eq_true _ _ ▸ hc.2 with e | e
  ·have : s.User = [] := by simpa using e
   rw [this]; simp
  ·have := afT e; omega
 refine ⟨g, by have := afT hc.1; omega, hu, by omega, akI s2, by omega, fun m hm => ajM (a2 m hm) (g.2.2.2.2.2.2.2.1.2 m hm), by omega, fun f hf => ajM (ai6 (afS w3 f hf)) (g.2.2.2.2.2.2.2.2.1.2.1.2 f hf).2.2, by omega, by omega, fun hs => ?_⟩
 unfold aan at h6
 rw [hs, dE] at h6
 exact ajM (cz1 h6 (by decide)) g.2.2.2.2.2.2.2.2.2.2.2
def aip (s : aI) : List Int × Int := cond (qV s != 0) ([], qV s) (cond s.Online ([], 9) (aiz s, 0))
theorem asG (s : aI) (g : s.good) : jE s = some (aip s) := by
 unfold jE aip
 rw [ajB s g, bB]
 by_cases h : qV s = 0
 ·have hb : (qV s != 0) = false := by simpa using h
  rw [hb, dP, dP]
  cases s.Online with
  | true => rfl
  | false =>
   rw [dP, dP]
   exact as9 (amB g h) (fun w => some (w, 0)) (fun _ => rfl)
 ·have hb : (qV s != 0) = true := by simpa using h
  rw [hb]; rfl
theorem amR (s : aI) (g : s.good) : oO s = some (aip s) := by
 unfold oO aip
 rw [al4 s g, bB]
 by_cases h : qV s = 0
 ·have hb : (qV s != 0) = false := by simpa using h
  rw [hb, dP, dP]
  cases s.Online with
  | true => rfl
  | false =>
   rw [dP, dP, asA (amB g h)]; rfl
 ·have hb : (qV s != 0) = true := by simpa using h
  rw [hb]; rfl
theorem apc (s : aI) : ∃ b, mW s = some b := by
 unfold mW
 cases decide ((s.Queue.length : Int) ≤ 60)
 ·exact ⟨_, rfl⟩
 ·cases decide ((s.Subs.length : Int) ≤ 60)
  ·exact ⟨_, rfl⟩
  ·cases decide ((s.Out.Items.length : Int) ≤ 60)
   ·exact ⟨_, rfl⟩
   ·cases decide ((s.In.IDs.length : Int) ≤ 60)
    ·exact ⟨_, rfl⟩
    ·exact ⟨_, rfl⟩
end Md
end PX
