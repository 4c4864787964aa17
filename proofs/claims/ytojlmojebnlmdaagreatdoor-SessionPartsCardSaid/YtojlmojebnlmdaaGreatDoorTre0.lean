import Derived.Test.YtojlmojebnlmdaaGreatDoorTab
set_option linter.unusedVariables false
set_option linter.unusedSimpArgs false
set_option maxRecDepth 100000
noncomputable section
namespace PX
open Go
open Md
namespace Te
abbrev cE {α : Type} (f : α → List D) (l : List α) (i : Int) (k : Nat) : D := cellAt (elemAt (List.map f l) (Int.toNat i)) k
abbrev lM {α : Type} (f : α → List D) (l : List α) : Nat := List.length (List.map f l)
abbrev iB (i n : Int) : Bool := decide (0 ≤ i) && decide (i < n)
abbrev w6 (x : Int) : Int := IntKind.wrap .i64 x
abbrev eI : Int → List D := encI .i64
abbrev rB (b : Bool) : Res := some (.ret [.d (.bool b)] [] [])
abbrev rI (n : Int) : Res := some (.ret [.d (.int .i64 n)] [] [])
theorem lQ {g : FuncId} {R S : Type} {out : R → Out} {e : S → Out} {x : Option R} {M : R → Option S} {a : List AV} {b : List Bx} {r : List Rw} {κ : R → Res} (hg : ∀ y, good g (out y)) (hi : ∀ y z, out y = out z → y = z) (h : Le (x.map out) (bA SE g a b r)) (hk : ∀ y, x = some y → Le ((M y).map e) (κ y)) : Le ((x.bind M).map e) (aix SE good g out a b r κ) := avQ (good := good) hg hi h hk
section
variable (Γ : Fun)  (Λ2 J : Lam)
def ayL : aP := aQ Γ
theorem aF1 (p0 : List aG) : bF SE (ayL Γ) Λ2 J 138 [.d (.sl aG.ks (List.map aG.enc p0))] [] [] =
 cond (List.isEmpty (List.map aG.enc p0)) (
 abh (
  (some (.ret [.row 0] [] [⟨aG.ks, 130, 32, []⟩]))) (
  cond (decide ((lM aG.enc [] + lM aG.enc p0) * 32 ≤ 140737488355328)) (
  (some (.ret [.row 0] [] [⟨aG.ks, 130, 32, ((List.map aG.enc []) ++ (List.map aG.enc p0))⟩]))) none)) (
 cond (decide ((lM aG.enc [] + lM aG.enc p0) * 32 ≤ 140737488355328)) (
 (some (.ret [.row 0] [] [⟨aG.ks, 130, 32, ((List.map aG.enc []) ++ (List.map aG.enc p0))⟩]))) none) := by kernel_rfl
end
abbrev aEL : aP := ayL gG
theorem aBd : aEL = aQ gG := rfl
theorem oE (p0 : List aG) : Le (Option.map cM (dU p0)) (bA SE 138 [.d (.sl aG.ks (List.map aG.enc p0))] [] []) := by
 refine aV aBd rfl ?_
 refine Le.trans ?_ (le_of_eq (aF1 ..).symm)
 unfold dU
 refine lD (by simp only [EN]) ?_ ?_
 ·refine alH ?_ ?_
  ·exact aJ rfl
  ·refine lG (by simp only [EN]) ?_
   exact aJ rfl
 ·refine lG (by simp only [EN]) ?_
  exact aJ rfl
section
variable (Γ : Fun) (γ138 : Gm ((List aG))) (Λ2 J : Lam)
def C80 : aP := aY (aQ Γ) 138 cM γ138
theorem T80 (p0 : aA) : bF SE (C80 Γ γ138) Λ2 J 80 [aA.av p0] [] [] =
 γ138 [.d (.sl aG.ks (List.map aG.enc p0.Props))] [] [] fun r0 =>
 (some (.ret [.agg [.d (.str p0.Topic), .d (.str p0.Payload), .d (.int .i64 p0.Level), .d (.bool p0.Retain), .d (.int .i64 p0.Priority), .d (.int .i64 p0.Expires), .d (.str p0.From), .d (.int .i64 p0.Seq), .row 0]] [] [⟨aG.ks, 130, 32, (List.map aG.enc r0)⟩])) := by kernel_rfl
end
abbrev X80 : aP := C80 gG (cT 138 cM)
theorem aEb : X80 = aQ gG := by unfold X80 C80; rw [bB fun _ h => h]
theorem mP (p0 : aA) : Le (Option.map bW (iE p0)) (bA SE 80 [aA.av p0] [] []) := by
 refine aV aEb rfl ?_
 refine Le.trans ?_ (le_of_eq (T80 ..).symm)
 unfold iE
 refine lQ eX nS (oE _) fun r0 _ => ?_
 exact aJ rfl
section
variable (Γ : Fun)  (Λ2 J : Lam)
def C81 : aP := aQ Γ
theorem T81 (p0 : Int) : bF SE (C81 Γ) Λ2 J 81 [.d (.int .i64 p0)] [] [] =
 cond (decide (p0 < 0)) (
 (some (.ret [.agg [.d (.int .i64 (if 32 < 0 then 32 else 0)), .row 0, .row 1, .d (.int .i64 0)]] [] [⟨aD.ks, 122, 128, (List.map aD.enc [])⟩, ⟨[.int .i64], 3, 8, (List.map eI [])⟩]))) (
 (some (.ret [.agg [.d (.int .i64 (if 32 < p0 then 32 else p0)), .row 0, .row 1, .d (.int .i64 0)]] [] [⟨aD.ks, 122, 128, (List.map aD.enc [])⟩, ⟨[.int .i64], 3, 8, (List.map eI [])⟩]))) := by kernel_rfl
end
abbrev X81 : aP := C81 gG
theorem aDL : X81 = aQ gG := rfl
theorem akd (p0 : Int) : Le (Option.map bX (aax p0)) (bA SE 81 [.d (.int .i64 p0)] [] []) := by
 refine aV aDL rfl ?_
 refine Le.trans ?_ (le_of_eq (T81 ..).symm)
 unfold aax
 refine lC ?_ ?_
 ·exact aJ rfl
 ·exact aJ rfl
section
variable (Γ : Fun) (γ80 : Gm (aA)) (γ81 : Gm (aI)) (Λ2 J : Lam)
def C31 : aP := aY (aY (aQ Γ) 80 bW γ80) 81 bX γ81
theorem T31 (p0 : aC) (p1 : Int) : bF SE (C31 Γ γ80 γ81) Λ2 J 31 [aC.av p0, .d (.int .i64 p1)] [] [] =
 γ80 [aA.av p0.Will.Message] [] [] fun r0 =>
 γ81 [.d (.int .i64 p0.Window)] [] [] fun r1 =>
 (some (.ret [.agg [.d (.str p0.Client), .d (.str p0.User), .d (.bool true), .d (.int .i64 p1), .d (.int .i64 p0.Expiry), .d (.int .i64 0), .d (.int .i64 0), .row 0, .row 1, .d (.int .i64 r1.Limit), .row 2, .row 3, .d (.int .i64 r1.Pool.Last), .row 4, .d (.bool p0.Will.Set), .d (.int .i64 p0.Will.Delay), .d (.str r0.Topic), .d (.str r0.Payload), .d (.int .i64 r0.Level), .d (.bool r0.Retain), .d (.int .i64 r0.Priority), .d (.int .i64 r0.Expires), .d (.str r0.From), .d (.int .i64 r0.Seq), .row 5]] [] [⟨aF.ks, 60, 32, (List.map aF.enc [])⟩, ⟨aA.ks, 34, 112, (List.map aA.enc [])⟩, ⟨aD.ks, 122, 128, (List.map aD.enc r1.Items)⟩, ⟨[.int .i64], 3, 8, (List.map eI r1.Pool.Used)⟩, ⟨[.int .i64], 3, 8, (List.map eI [])⟩, ⟨aG.ks, 130, 32, (List.map aG.enc r0.Props)⟩])) := by kernel_rfl
end
abbrev X31 : aP := C31 gG (cT 80 bW) (cT 81 bX)
theorem aD9 : X31 = aQ gG := by unfold X31 C31; repeat rw [bB fun _ h => h]
theorem aaT (p0 : aC) (p1 : Int) : Le (Option.map cB (p7 p0 p1)) (bA SE 31 [aC.av p0, .d (.int .i64 p1)] [] []) := by
 refine aV aD9 rfl ?_
 refine Le.trans ?_ (le_of_eq (T31 ..).symm)
 unfold p7
 refine lQ eX dB (mP _) fun r0 _ => ?_
 refine lQ eX fE (akd _) fun r1 _ => ?_
 exact aJ rfl
section
variable (Γ : Fun)  (Λ2 J : Lam)
def aAr : aP := aQ Γ
theorem aEg (p0 p1 : Str) : bF SE (aAr Γ) Λ2 J 163 [.d (.str p0), .d (.str p1)] [] [] =
 cond (decide ((List.length p0 : Int) ≥ (List.length p1 : Int))) (
 cond (decide (0 ≤ (List.length p1 : Int)) && decide ((List.length p1 : Int) ≤ ((List.length p0) : Int))) (
  (rB ((bQ p0 none (some (List.length p1 : Int))) == p1))) none) (
 (rB false)) := by kernel_rfl
end
abbrev aFM : aP := aAr gG
theorem aCo : aFM = aQ gG := rfl
theorem wM (p0 p1 : Str) : Le (Option.map stringslite_HasPrefix_out (jE p0 p1)) (bA SE 163 [.d (.str p0), .d (.str p1)] [] []) := by
 refine aV aCo rfl ?_
 refine Le.trans ?_ (le_of_eq (aEg ..).symm)
 unfold jE
 refine lC ?_ ?_
 ·refine lF ?_
  exact aJ rfl
 ·exact aJ rfl
section
variable (Γ : Fun) (γ163 : Gm (Bool)) (Λ2 J : Lam)
def auZ : aP := aY (aQ Γ) 163 stringslite_HasPrefix_out γ163
theorem aE6 (p0 p1 : Str) : bF SE (auZ Γ γ163) Λ2 J 179 [.d (.str p0), .d (.str p1)] [] [] =
 γ163 [.d (.str p0), .d (.str p1)] [] [] fun r0 =>
 cond (!r0) (
 (some (.ret [.d (.str p0), .d (.bool false)] [] []))) (
 cond (decide (0 ≤ (List.length p1 : Int)) && decide ((List.length p1 : Int) ≤ ((List.length p0) : Int))) (
 (some (.ret [.d (.str (bQ p0 (some (List.length p1 : Int)) none)), .d (.bool true)] [] []))) none) := by kernel_rfl
end
abbrev awL : aP := auZ gG (cT 163 stringslite_HasPrefix_out)
theorem aB0 : awL = aQ gG := by unfold awL auZ; rw [bB fun _ h => h]
theorem adk (p0 p1 : Str) : Le (Option.map dA (oG p0 p1)) (bA SE 179 [.d (.str p0), .d (.str p1)] [] []) := by
 refine aV aB0 rfl ?_
 refine Le.trans ?_ (le_of_eq (aE6 ..).symm)
 unfold oG
 refine lQ eX stringslite_HasPrefix_inj (wM _ _) fun r0 _ => ?_
 refine lC ?_ ?_
 ·exact aJ rfl
 ·refine lF ?_
  exact aJ rfl
section
variable (Γ : Fun) (γ179 : Gm (Str × Bool)) (Λ2 J : Lam)
def atv : aP := aY (aQ Γ) 179 dA γ179
theorem aFY (p0 p1 : Str) : bF SE (atv Γ γ179) Λ2 J 159 [.d (.str p0), .d (.str p1)] [] [] =
 γ179 [.d (.str p0), .d (.str p1)] [] [] fun r0 =>
 (some (.ret [.d (.str r0.1), .d (.bool r0.2)] [] [])) := by kernel_rfl
end
abbrev awZ : aP := atv gG (cT 179 dA)
theorem aBl : awZ = aQ gG := by unfold awZ atv; rw [bB fun _ h => h]
theorem aga (p0 p1 : Str) : Le (Option.map dA (o7 p0 p1)) (bA SE 159 [.d (.str p0), .d (.str p1)] [] []) := by
 refine aV aBl rfl ?_
 refine Le.trans ?_ (le_of_eq (aFY ..).symm)
 unfold o7
 refine lQ eX vT (adk _ _) fun r0 _ => ?_
 exact aJ rfl
section
variable (Γ : Fun)  (Λ2 J : Lam)
def az0 : aP := aQ Γ
theorem aGc (p0 : Str) (p1 : Int) : bF SE (az0 Γ) Λ2 J 193 [.d (.str p0), .d (.int .u8 p1)] [] [] =
 (rI (Lib.indexByte p0 (UInt8.ofNat (Int.toNat p1)) : Int)) := by kernel_rfl
end
abbrev aGn : aP := az0 gG
theorem aCG : aGn = aQ gG := rfl
theorem acZ (p0 : Str) (p1 : Int) : Le (Option.map stringslite_IndexByte_out (tP p0 p1)) (bA SE 193 [.d (.str p0), .d (.int .u8 p1)] [] []) := by
 refine aV aCG rfl ?_
 refine Le.trans ?_ (le_of_eq (aGc ..).symm)
 unfold tP
 exact aJ rfl
section
variable (Γ : Fun) (γ193 : Gm (Int)) (Λ2 J : Lam)
def atp : aP := aY (aQ Γ) 193 stringslite_IndexByte_out γ193
theorem aFL (p0 p1 : Str) : bF SE (atp Γ γ193) Λ2 J 189 [.d (.str p0), .d (.str p1)] [] [] =
 cond ((List.length p1 : Int) == 0) (
 (rI 0)) (
 cond (p1 == p0) (
 (rI 0)) (
 cond ((List.length p1 : Int) == 1) (
 cond (decide (0 ≤ 0) && decide (0 < (List.length p1 : Int))) (
  γ193 [.d (.str p0), .d (.int .u8 (UInt8.toNat (List.getD p1 (Int.toNat 0) 0) : Int))] [] [] fun r0 =>
  (rI r0)) none) (
 cond (decide ((List.length p1 : Int) ≥ (List.length p0 : Int))) (
 (rI (-1))) none))) := by kernel_rfl
end
abbrev azx : aP := atp gG (cT 193 stringslite_IndexByte_out)
theorem aBu : azx = aQ gG := by unfold azx atp; rw [bB fun _ h => h]
theorem aat (p0 p1 : Str) : Le (Option.map stringslite_IndexByte_out (j0 p0 p1)) (bA SE 189 [.d (.str p0), .d (.str p1)] [] []) := by
 refine aV aBu rfl ?_
 refine Le.trans ?_ (le_of_eq (aFL ..).symm)
 unfold j0
 refine lC ?_ ?_
 ·exact aJ rfl
 ·refine lC ?_ ?_
  ·exact aJ rfl
  ·refine lC ?_ ?_
   ·refine lF ?_
    refine lQ eX stringslite_IndexByte_inj (acZ _ _) fun r0 _ => ?_
    exact aJ rfl
   ·refine lF ?_
    exact aJ rfl
section
variable (Γ : Fun) (γ189 : Gm (Int)) (Λ2 J : Lam)
def auJ : aP := aY (aQ Γ) 189 stringslite_IndexByte_out γ189
theorem aE2 (p0 p1 : Str) : bF SE (auJ Γ γ189) Λ2 J 180 [.d (.str p0), .d (.str p1)] [] [] =
 γ189 [.d (.str p0), .d (.str p1)] [] [] fun r0 =>
 cond (decide (r0 ≥ 0)) (
 cond (decide (0 ≤ r0) && decide (r0 ≤ ((List.length p0) : Int))) (
  cond (decide (0 ≤ (w6 (r0 + (List.length p1 : Int)))) && decide ((w6 (r0 + (List.length p1 : Int))) ≤ ((List.length p0) : Int))) (
  (some (.ret [.d (.str (bQ p0 none (some r0))), .d (.str (bQ p0 (some (w6 (r0 + (List.length p1 : Int)))) none)), .d (.bool true)] [] []))) none) none) (
 (some (.ret [.d (.str p0), .d (.str []), .d (.bool false)] [] []))) := by kernel_rfl
end
abbrev aAA : aP := auJ gG (cT 189 stringslite_IndexByte_out)
theorem aDu : aAA = aQ gG := by unfold aAA auJ; rw [bB fun _ h => h]
theorem aih (p0 p1 : Str) : Le (Option.map stringslite_Cut_out (vR p0 p1)) (bA SE 180 [.d (.str p0), .d (.str p1)] [] []) := by
 refine aV aDu rfl ?_
 refine Le.trans ?_ (le_of_eq (aE2 ..).symm)
 unfold vR
 refine lQ eX stringslite_IndexByte_inj (aat _ _) fun r0 _ => ?_
 refine lC ?_ ?_
 ·refine lF ?_
  refine lF ?_
  exact aJ rfl
 ·exact aJ rfl
section
variable (Γ : Fun) (γ180 : Gm (Str × Str × Bool)) (Λ2 J : Lam)
def atA : aP := aY (aQ Γ) 180 stringslite_Cut_out γ180
theorem aFn (p0 p1 : Str) : bF SE (atA Γ γ180) Λ2 J 160 [.d (.str p0), .d (.str p1)] [] [] =
 γ180 [.d (.str p0), .d (.str p1)] [] [] fun r0 =>
 (some (.ret [.d (.str r0.1), .d (.str r0.2.1), .d (.bool r0.2.2)] [] [])) := by kernel_rfl
end
abbrev ax4 : aP := atA gG (cT 180 stringslite_Cut_out)
theorem aDp : ax4 = aQ gG := by unfold ax4 atA; rw [bB fun _ h => h]
theorem alm (p0 p1 : Str) : Le (Option.map stringslite_Cut_out (xS p0 p1)) (bA SE 160 [.d (.str p0), .d (.str p1)] [] []) := by
 refine aV aDp rfl ?_
 refine Le.trans ?_ (le_of_eq (aFn ..).symm)
 unfold xS
 refine lQ eX stringslite_Cut_inj (aih _ _) fun r0 _ => ?_
 exact aJ rfl
def an4 (C : aP) (Λ2 J : Lam) (a0 a1 : Int) (a2 : Bool) (a3 : Str) (a4 : Nat) : Res := lab SE C Λ2 J 139 0 [1, 1, 0, 1, 0, 0, 1, 1, 0, 1, 1, 0] (aW [(3, .d (.int .i64 a0)), (4, .d (.int .i32 a1)), (5, .d (.bool a2)), (15, .it 4000)] [] [] [(4000, (a3, a4))] [])
def ahJ (C : aP) (Λ2 J : Lam) (a0 : Str) (a1 : Nat) : Res := lab SE C Λ2 J 139 0 [1, 1, 0, 1, 0] (aW [(15, .it 4000)] [] [] [(4000, (a0, a1))] [])
def asn (C : aP) (Λ2 J : Lam) (a0 : Str) : Res := lab SE C Λ2 J 139 0 [1, 1, 0, 0] (aW [(0, .d (.str a0))] [] [] [] [])
section
variable (Γ : Fun)  (Λ2 J : Lam)
def abE : aP := aQ Γ
theorem aFm (p0 : Str) : bF SE (abE Γ) Λ2 J 139 [.d (.str p0)] [] [] =
 cond (decide ((List.length p0 : Int) < 1)) (
 (rB false)) (
 cond (decide ((List.length p0 : Int) > 16)) (
 (rB false)) (
 asn (abE Γ) Λ2 J p0)) := by kernel_rfl
theorem axm (x3 x4 : Int) (x5 : Bool) (s4000 : Str) (i4000 : Nat) : bT SE (abE Γ) Λ2 J 139 0 [1, 1, 0, 1, 0, 0, 1, 1, 0, 1, 1, 0] (aW [(3, .d (.int .i64 x3)), (4, .d (.int .i32 x4)), (5, .d (.bool x5)), (15, .it 4000)] [] [] [(4000, (s4000, i4000))] []) =
 cond (!x5) (
 cond (x3 == 0) (
  (rB false)) (
 cond (x4 != 45) (
  cond (decide (x4 < 48)) (
  (rB false)) (
  cond (decide (x4 > 57)) (
  (rB false)) (
  ahJ (abE Γ) Λ2 J s4000 i4000))) (
 ahJ (abE Γ) Λ2 J s4000 i4000))) (
 ahJ (abE Γ) Λ2 J s4000 i4000) := by kernel_rfl
theorem ayg (s4000 : Str) (i4000 : Nat) : bT SE (abE Γ) Λ2 J 139 0 [1, 1, 0, 1, 0] (aW [(15, .it 4000)] [] [] [(4000, (s4000, i4000))] []) =
 cond (decide (i4000 < List.length s4000)) (
 cond (decide (((dec s4000 i4000).1 : Int) ≥ 97)) (
  an4 (abE Γ) Λ2 J (i4000 : Int) ((dec s4000 i4000).1 : Int) (decide (((dec s4000 i4000).1 : Int) ≤ 122)) s4000 (i4000 + (dec s4000 i4000).2)) (
 an4 (abE Γ) Λ2 J (i4000 : Int) ((dec s4000 i4000).1 : Int) false s4000 (i4000 + (dec s4000 i4000).2))) (
 (rB true)) := by kernel_rfl
theorem aye (x0 : Str) : bT SE (abE Γ) Λ2 J 139 0 [1, 1, 0, 0] (aW [(0, .d (.str x0))] [] [] [] []) =
 ahJ (abE Γ) Λ2 J x0 0 := by kernel_rfl
end
abbrev ajk : aP := abE gG
theorem amW : ajk = aQ gG := rfl
abbrev axo := an4 ajk (bP SE gG (SE.hl 139) (SE.hr 139)) (J0 SE ajk)
abbrev ash := ahJ ajk (bP SE gG (SE.hl 139) (SE.hr 139)) (J0 SE ajk)
abbrev ayq := asn ajk (bP SE gG (SE.hl 139) (SE.hr 139)) (J0 SE ajk)
theorem adb (k4 : Str → Nat → Option (Bool)) (hk4 : ∀ (s4000 : Str) (i4000 : Nat), Le (Option.map stringslite_HasPrefix_out (k4 s4000 i4000)) (ash s4000 i4000)) (x3 x4 : Int) (x5 : Bool) (s4000 : Str) (i4000 : Nat) : Le (Option.map stringslite_HasPrefix_out (oS k4 x3 x4 x5 s4000 i4000)) (axo x3 x4 x5 s4000 i4000) := by
 refine Le.trans ?_ (le_of_eq ((aZ amW).trans (axm ..)).symm)
 unfold oS
 refine lC ?_ ?_
 ·refine lC ?_ ?_
  ·exact aJ rfl
  ·refine lC ?_ ?_
   ·refine lC ?_ ?_
    ·exact aJ rfl
    ·refine lC ?_ ?_
     ·exact aJ rfl
     ·exact hk4 s4000 i4000
   ·exact hk4 s4000 i4000
 ·exact hk4 s4000 i4000
theorem ajs : ∀ (fu : Nat) (s4000 : Str) (i4000 : Nat), Le (Option.map stringslite_HasPrefix_out (kN fu s4000 i4000)) (ash s4000 i4000) := by
 intro fu
 induction fu with
 | zero => intros; exact le_none
 | succ fu ih =>
  intro s4000 i4000
  refine Le.trans ?_ (le_of_eq ((aZ amW).trans (ayg ..)).symm)
  unfold kN
  refine lC ?_ ?_
  ·refine lC ?_ ?_
   ·exact adb _ (ih) (i4000 : Int) ((dec s4000 i4000).1 : Int) (decide (((dec s4000 i4000).1 : Int) ≤ 122)) s4000 (i4000 + (dec s4000 i4000).2)
   ·exact adb _ (ih) (i4000 : Int) ((dec s4000 i4000).1 : Int) false s4000 (i4000 + (dec s4000 i4000).2)
  ·exact aJ rfl
theorem ajQ (x0 : Str) : Le (Option.map stringslite_HasPrefix_out (yP x0)) (ayq x0) := by
 refine Le.trans ?_ (le_of_eq ((aZ amW).trans (aye ..)).symm)
 unfold yP
 exact ajs fuel x0 0
theorem yN (p0 : Str) : Le (Option.map stringslite_HasPrefix_out (sP p0)) (bA SE 139 [.d (.str p0)] [] []) := by
 refine aV amW rfl ?_
 refine Le.trans ?_ (le_of_eq (aFm ..).symm)
 unfold sP
 refine lC ?_ ?_
 ·exact aJ rfl
 ·refine lC ?_ ?_
  ·exact aJ rfl
  ·exact ajQ p0
def akg (C : aP) (Λ2 J : Lam) (a0 : Int) (a1 : Str) (a2 : Nat) : Res := lab SE C Λ2 J 161 0 [1, 1, 1, 0, 1, 0] (aW [(3, .d (.int .i64 a0)), (15, .it 4000)] [] [] [(4000, (a1, a2))] [])
def asC (C : aP) (Λ2 J : Lam) (a0 : Str) : Res := lab SE C Λ2 J 161 0 [1, 1, 0] (aW [(0, .d (.str a0))] [] [] [] [])
section
variable (Γ : Fun)  (Λ2 J : Lam)
def aha : aP := aQ Γ
theorem aFb (p0 : Str) : bF SE (aha Γ) Λ2 J 161 [.d (.str p0)] [] [] =
 cond (decide ((List.length p0 : Int) < 1)) (
 (rB false)) (
 cond (decide ((List.length p0 : Int) > 64)) (
 (rB false)) (
 asC (aha Γ) Λ2 J p0)) := by kernel_rfl
theorem ax9 (x3 : Int) (s4000 : Str) (i4000 : Nat) : bT SE (aha Γ) Λ2 J 161 0 [1, 1, 1, 0, 1, 0] (aW [(3, .d (.int .i64 x3)), (15, .it 4000)] [] [] [(4000, (s4000, i4000))] []) =
 cond (decide (i4000 < List.length s4000)) (
 cond (((dec s4000 i4000).1 : Int) == 0) (
  (rB false)) (
 cond (((dec s4000 i4000).1 : Int) == 47) (
  akg (aha Γ) Λ2 J (w6 (x3 + 1)) s4000 (i4000 + (dec s4000 i4000).2)) (
 akg (aha Γ) Λ2 J x3 s4000 (i4000 + (dec s4000 i4000).2)))) (
 (rB (decide (x3 ≤ 8)))) := by kernel_rfl
theorem azc (x0 : Str) : bT SE (aha Γ) Λ2 J 161 0 [1, 1, 0] (aW [(0, .d (.str x0))] [] [] [] []) =
 akg (aha Γ) Λ2 J 1 x0 0 := by kernel_rfl
end
abbrev aot : aP := aha gG
theorem aqq : aot = aQ gG := rfl
abbrev aAc := akg aot (bP SE gG (SE.hl 161) (SE.hr 161)) (J0 SE aot)
abbrev ayo := asC aot (bP SE gG (SE.hl 161) (SE.hr 161)) (J0 SE aot)
theorem aiQ : ∀ (fu : Nat) (x3 : Int) (s4000 : Str) (i4000 : Nat), Le (Option.map stringslite_HasPrefix_out (jQ fu x3 s4000 i4000)) (aAc x3 s4000 i4000) := by
 intro fu
 induction fu with
 | zero => intros; exact le_none
 | succ fu ih =>
  intro x3 s4000 i4000
  refine Le.trans ?_ (le_of_eq ((aZ aqq).trans (ax9 ..)).symm)
  unfold jQ
  refine lC ?_ ?_
  ·refine lC ?_ ?_
   ·exact aJ rfl
   ·refine lC ?_ ?_
    ·exact ih (w6 (x3 + 1)) s4000 (i4000 + (dec s4000 i4000).2)
    ·exact ih x3 s4000 (i4000 + (dec s4000 i4000).2)
  ·exact aJ rfl
theorem aiM (x0 : Str) : Le (Option.map stringslite_HasPrefix_out (xA x0)) (ayo x0) := by
 refine Le.trans ?_ (le_of_eq ((aZ aqq).trans (azc ..)).symm)
 unfold xA
 exact aiQ fuel 1 x0 0
theorem aeR (p0 : Str) : Le (Option.map stringslite_HasPrefix_out (vB p0)) (bA SE 161 [.d (.str p0)] [] []) := by
 refine aV aqq rfl ?_
 refine Le.trans ?_ (le_of_eq (aFb ..).symm)
 unfold vB
 refine lC ?_ ?_
 ·exact aJ rfl
 ·refine lC ?_ ?_
  ·exact aJ rfl
  ·exact aiM p0
section
variable (Γ : Fun) (γ189 : Gm (Int)) (Λ2 J : Lam)
def auq : aP := aY (aQ Γ) 189 stringslite_IndexByte_out γ189
theorem aE9 (p0 p1 : Str) : bF SE (auq Γ γ189) Λ2 J 199 [.d (.str p0), .d (.str p1)] [] [] =
 γ189 [.d (.str p0), .d (.str p1)] [] [] fun r0 =>
 (rI r0) := by kernel_rfl
end
abbrev ayv : aP := auq gG (cT 189 stringslite_IndexByte_out)
theorem aBj : ayv = aQ gG := by unfold ayv auq; rw [bB fun _ h => h]
theorem adi (p0 p1 : Str) : Le (Option.map stringslite_IndexByte_out (mS p0 p1)) (bA SE 199 [.d (.str p0), .d (.str p1)] [] []) := by
 refine aV aBj rfl ?_
 refine Le.trans ?_ (le_of_eq (aE9 ..).symm)
 unfold mS
 refine lQ eX stringslite_IndexByte_inj (aat _ _) fun r0 _ => ?_
 exact aJ rfl
def apd (C : aP) (Λ2 J : Lam) (a0 a1 : Str) (a2 : Int) : Res := lab SE C Λ2 J 198 0 [1, 1, 1, 1, 0] (aW [(0, .d (.str a0)), (1, .d (.str a1)), (5, .d (.int .i64 a2))] [] [] [] [])
section
variable (Γ : Fun) (γ199 : Gm (Int)) (Λ2 J : Lam)
def alB : aP := aY (aQ Γ) 199 stringslite_IndexByte_out γ199
theorem aEk (p0 p1 : Str) : bF SE (alB Γ γ199) Λ2 J 198 [.d (.str p0), .d (.str p1)] [] [] =
 cond ((List.length p1 : Int) == 0) (
 none) (
 cond ((List.length p1 : Int) == 1) (
 cond (decide (0 ≤ 0) && decide (0 < (List.length p1 : Int))) (
  (rI (Lib.countByte p0 (UInt8.ofNat (Int.toNat (UInt8.toNat (List.getD p1 (Int.toNat 0) 0) : Int))) : Int))) none) (
 apd (alB Γ γ199) Λ2 J p0 p1 0)) := by kernel_rfl
theorem ax3 (x0 x1 : Str) (x5 : Int) : bT SE (alB Γ γ199) Λ2 J 198 0 [1, 1, 1, 1, 0] (aW [(0, .d (.str x0)), (1, .d (.str x1)), (5, .d (.int .i64 x5))] [] [] [] []) =
 γ199 [.d (.str x0), .d (.str x1)] [] [] fun r0 =>
 cond (r0 == (-1)) (
 (rI x5)) (
 cond (decide (0 ≤ (w6 (r0 + (List.length x1 : Int)))) && decide ((w6 (r0 + (List.length x1 : Int))) ≤ ((List.length x0) : Int))) (
 apd (alB Γ γ199) Λ2 J (bQ x0 (some (w6 (r0 + (List.length x1 : Int)))) none) x1 (w6 (x5 + 1))) none) := by kernel_rfl
end
abbrev arK : aP := alB gG (cT 199 stringslite_IndexByte_out)
theorem avA : arK = aQ gG := by unfold arK alB; rw [bB fun _ h => h]
abbrev awQ := apd arK (bP SE gG (SE.hl 198) (SE.hr 198)) (J0 SE arK)
theorem ag6 : ∀ (fu : Nat) (x0 x1 : Str) (x5 : Int), Le (Option.map stringslite_IndexByte_out (uG fu x0 x1 x5)) (awQ x0 x1 x5) := by
 intro fu
 induction fu with
 | zero => intros; exact le_none
 | succ fu ih =>
  intro x0 x1 x5
  refine Le.trans ?_ (le_of_eq ((aZ avA).trans (ax3 ..)).symm)
  unfold uG
  refine lQ eX stringslite_IndexByte_inj (adi _ _) fun r0 _ => ?_
  refine lC ?_ ?_
  ·exact aJ rfl
  ·refine lF ?_
   exact ih (bQ x0 (some (w6 (r0 + (List.length x1 : Int)))) none) x1 (w6 (x5 + 1))
theorem ajy (p0 p1 : Str) : Le (Option.map stringslite_IndexByte_out (vA p0 p1)) (bA SE 198 [.d (.str p0), .d (.str p1)] [] []) := by
 refine aV avA rfl ?_
 refine Le.trans ?_ (le_of_eq (aEk ..).symm)
 unfold vA
 refine lC ?_ ?_
 ·exact le_none
 ·refine lC ?_ ?_
  ·refine lF ?_
   exact aJ rfl
  ·exact ag6 fuel p0 p1 0
def als (C : aP) (Λ2 J : Lam) (a0 : Str) (a1 : Int) (a2 : List (List D)) : Res := lab SE C Λ2 J 190 0 [1, 1, 1, 1, 1, 1, 1, 1, 1, 0] (aW [(0, .d (.str a0)), (9, .row 3009), (10, .d (.int .i64 a1))] [] [] [] [(3009, ⟨[.str], 9, 16, a2⟩)])
def alT (C : aP) (Λ2 J : Lam) (a0 a1 : Str) (a2 a3 a4 : Int) (a5 : List (List D)) : Res := lab SE C Λ2 J 190 0 [1, 1, 1, 1, 1, 1, 1, 1, 0, 0] (aW [(0, .d (.str a0)), (1, .d (.str a1)), (2, .d (.int .i64 a2)), (3, .d (.int .i64 a3)), (9, .row 3009), (10, .d (.int .i64 a4))] [] [] [] [(3009, ⟨[.str], 9, 16, a5⟩)])
def apf (C : aP) (Λ2 J : Lam) (a0 a1 : Str) (a2 a3 : Int) : Res := lab SE C Λ2 J 190 0 [1, 1, 1, 1, 0] (aW [(0, .d (.str a0)), (1, .d (.str a1)), (2, .d (.int .i64 a2)), (3, .d (.int .i64 a3))] [] [] [] [])
section
variable (Γ : Fun) (γ198 γ199 : Gm (Int)) (Λ2 J : Lam)
def abQ : aP := aY (aY (aQ Γ) 198 stringslite_IndexByte_out γ198) 199 stringslite_IndexByte_out γ199
theorem aEp (p0 p1 : Str) (p2 p3 : Int) : bF SE (abQ Γ γ198 γ199) Λ2 J 190 [.d (.str p0), .d (.str p1), .d (.int .i64 p2), .d (.int .i64 p3)] [] [] =
 cond (p3 == 0) (
 (some (.ret [.d (.sl [.str] (List.map bL []))] [] []))) (
 cond (p1 == ([] : Str)) (
 none) (
 cond (decide (p3 < 0)) (
 γ198 [.d (.str p0), .d (.str p1)] [] [] fun r0 =>
 apf (abQ Γ γ198 γ199) Λ2 J p0 p1 p2 (w6 (r0 + 1))) (
 apf (abQ Γ γ198 γ199) Λ2 J p0 p1 p2 p3))) := by kernel_rfl
theorem av3 (x0 : Str) (x10 : Int) (w3009 : List Str) : bT SE (abQ Γ γ198 γ199) Λ2 J 190 0 [1, 1, 1, 1, 1, 1, 1, 1, 1, 0] (aW [(0, .d (.str x0)), (9, .row 3009), (10, .d (.int .i64 x10))] [] [] [] [(3009, ⟨[.str], 9, 16, (List.map bL w3009)⟩)]) =
 cond (iB x10 (lM bL w3009 : Int)) (
 cond (decide (0 ≤ (w6 (x10 + 1))) && decide ((w6 (x10 + 1)) ≤ ((List.length (mY (List.map bL w3009) (Int.toNat x10) 0 [D.str x0])) : Int))) (
  (some (.ret [.d (.sl [.str] (List.take ((Int.toNat (w6 (x10 + 1))) - 0) (List.drop 0 (mY (List.map bL w3009) (Int.toNat x10) 0 [D.str x0]))))] [] []))) none) none := by kernel_rfl
theorem awc (x0 x1 : Str) (x2 x3 x10 : Int) (w3009 : List Str) : bT SE (abQ Γ γ198 γ199) Λ2 J 190 0 [1, 1, 1, 1, 1, 1, 1, 1, 0, 0] (aW [(0, .d (.str x0)), (1, .d (.str x1)), (2, .d (.int .i64 x2)), (3, .d (.int .i64 x3)), (9, .row 3009), (10, .d (.int .i64 x10))] [] [] [] [(3009, ⟨[.str], 9, 16, (List.map bL w3009)⟩)]) =
 cond (decide (x10 < x3)) (
 γ199 [.d (.str x0), .d (.str x1)] [] [] fun r1 =>
 cond (decide (r1 < 0)) (
  als (abQ Γ γ198 γ199) Λ2 J x0 x10 (List.map bL w3009)) (
 cond (decide (0 ≤ (w6 (r1 + x2))) && decide ((w6 (r1 + x2)) ≤ ((List.length x0) : Int))) (
  cond (iB x10 (lM bL w3009 : Int)) (
  cond (decide (0 ≤ (w6 (r1 + (List.length x1 : Int)))) && decide ((w6 (r1 + (List.length x1 : Int))) ≤ ((List.length x0) : Int))) (
   alT (abQ Γ γ198 γ199) Λ2 J (bQ x0 (some (w6 (r1 + (List.length x1 : Int)))) none) x1 x2 x3 (w6 (x10 + 1)) ((mY (List.map bL w3009) (Int.toNat x10) 0 [D.str (bQ x0 none (some (w6 (r1 + x2))))]))) none) none) none)) (
 als (abQ Γ γ198 γ199) Λ2 J x0 x10 (List.map bL w3009)) := by kernel_rfl
theorem ayS (x0 x1 : Str) (x2 x3 : Int) : bT SE (abQ Γ γ198 γ199) Λ2 J 190 0 [1, 1, 1, 1, 0] (aW [(0, .d (.str x0)), (1, .d (.str x1)), (2, .d (.int .i64 x2)), (3, .d (.int .i64 x3))] [] [] [] []) =
 cond (decide (0 ≤ (if (w6 ((List.length x0 : Int) + 1)) < x3 then (w6 ((List.length x0 : Int) + 1)) else x3)) && decide ((if (w6 ((List.length x0 : Int) + 1)) < x3 then (w6 ((List.length x0 : Int) + 1)) else x3) ≤ (if (w6 ((List.length x0 : Int) + 1)) < x3 then (w6 ((List.length x0 : Int) + 1)) else x3)) && decide ((if (w6 ((List.length x0 : Int) + 1)) < x3 then (w6 ((List.length x0 : Int) + 1)) else x3) * 16 ≤ 281474976710656)) (
 alT (abQ Γ γ198 γ199) Λ2 J x0 x1 x2 ((w6 ((if (w6 ((List.length x0 : Int) + 1)) < x3 then (w6 ((List.length x0 : Int) + 1)) else x3) - 1))) 0 ((List.replicate (Int.toNat (if (w6 ((List.length x0 : Int) + 1)) < x3 then (w6 ((List.length x0 : Int) + 1)) else x3)) [D.str []]))) none := by kernel_rfl
end
abbrev ahg : aP := abQ gG (cT 198 stringslite_IndexByte_out) (cT 199 stringslite_IndexByte_out)
theorem anb : ahg = aQ gG := by unfold ahg abQ; repeat rw [bB fun _ h => h]
abbrev awt := als ahg (bP SE gG (SE.hl 190) (SE.hr 190)) (J0 SE ahg)
abbrev avX := alT ahg (bP SE gG (SE.hl 190) (SE.hr 190)) (J0 SE ahg)
abbrev ayY := apf ahg (bP SE gG (SE.hl 190) (SE.hr 190)) (J0 SE ahg)
theorem xF (x0 : Str) (x10 : Int) (w3009 : List Str) : Le (Option.map cF (lN x0 x10 w3009)) (awt x0 x10 (List.map bL w3009)) := by
 refine Le.trans ?_ (le_of_eq ((aZ anb).trans (av3 ..)).symm)
 unfold lN
 refine lG (by simp only [EN]) ?_
 refine lG (by simp only [EN]) ?_
 exact aJ (by first | rfl | simp only [EN, cF] <;> rfl)
theorem adq : ∀ (fu : Nat) (x0 x1 : Str) (x2 x3 x10 : Int) (w3009 : List Str), Le (Option.map cF (gW fu x0 x1 x2 x3 x10 w3009)) (avX x0 x1 x2 x3 x10 (List.map bL w3009)) := by
 intro fu
 induction fu with
 | zero => intros; exact le_none
 | succ fu ih =>
  intro x0 x1 x2 x3 x10 w3009
  refine Le.trans ?_ (le_of_eq ((aZ anb).trans (awc ..)).symm)
  unfold gW
  refine lC ?_ ?_
  ·refine lQ eX stringslite_IndexByte_inj (adi _ _) fun r1 _ => ?_
   refine lC ?_ ?_
   ·exact xF x0 x10 w3009
   ·refine lF ?_
    refine lG (by simp only [EN]) ?_
    refine lF ?_
    (try simp only [EN]); exact ih (bQ x0 (some (w6 (r1 + (List.length x1 : Int)))) none) x1 x2 x3 (w6 (x10 + 1)) ((List.set w3009 (Int.toNat x10) (bQ x0 none (some (w6 (r1 + x2))))))
  ·exact xF x0 x10 w3009
theorem yD (x0 x1 : Str) (x2 x3 : Int) : Le (Option.map cF (m8 x0 x1 x2 x3)) (ayY x0 x1 x2 x3) := by
 refine Le.trans ?_ (le_of_eq ((aZ anb).trans (ayS ..)).symm)
 unfold m8
 refine lF ?_
 (try simp only [EN]); exact adq fuel x0 x1 x2 ((w6 ((if (w6 ((List.length x0 : Int) + 1)) < x3 then (w6 ((List.length x0 : Int) + 1)) else x3) - 1))) 0 ((List.replicate (Int.toNat (if (w6 ((List.length x0 : Int) + 1)) < x3 then (w6 ((List.length x0 : Int) + 1)) else x3)) (default : Str)))
theorem agZ (p0 p1 : Str) (p2 p3 : Int) : Le (Option.map cF (uF p0 p1 p2 p3)) (bA SE 190 [.d (.str p0), .d (.str p1), .d (.int .i64 p2), .d (.int .i64 p3)] [] []) := by
 refine aV anb rfl ?_
 refine Le.trans ?_ (le_of_eq (aEp ..).symm)
 unfold uF
 refine lC ?_ ?_
 ·exact aJ rfl
 ·refine lC ?_ ?_
  ·exact le_none
  ·refine lC ?_ ?_
   ·refine lQ eX stringslite_IndexByte_inj (ajy _ _) fun r0 _ => ?_
    exact yD p0 p1 p2 (w6 (r0 + 1))
   ·exact yD p0 p1 p2 p3
section
variable (Γ : Fun) (γ190 : Gm ((List Str))) (Λ2 J : Lam)
def atW : aP := aY (aQ Γ) 190 cF γ190
theorem aDK (p0 p1 : Str) : bF SE (atW Γ γ190) Λ2 J 181 [.d (.str p0), .d (.str p1)] [] [] =
 γ190 [.d (.str p0), .d (.str p1), .d (.int .i64 0), .d (.int .i64 (-1))] [] [] fun r0 =>
 (some (.ret [.d (.sl [.str] (List.map bL r0))] [] [])) := by kernel_rfl
end
abbrev awG : aP := atW gG (cT 190 cF)
theorem aBN : awG = aQ gG := by unfold awG atW; rw [bB fun _ h => h]
theorem ajr (p0 p1 : Str) : Le (Option.map cF (uU p0 p1)) (bA SE 181 [.d (.str p0), .d (.str p1)] [] []) := by
 refine aV aBN rfl ?_
 refine Le.trans ?_ (le_of_eq (aDK ..).symm)
 unfold uU
 refine lQ eX uP (agZ _ _ _ _) fun r0 _ => ?_
 exact aJ rfl
section
variable (Γ : Fun) (γ181 : Gm ((List Str))) (Λ2 J : Lam)
def atB : aP := aY (aQ Γ) 181 cF γ181
theorem aD3 (p0 : Str) : bF SE (atB Γ γ181) Λ2 J 162 [.d (.str p0)] [] [] =
 γ181 [.d (.str p0), .d (.str ([47] : Str))] [] [] fun r0 =>
 (some (.ret [.d (.sl [.str] (List.map bL r0))] [] [])) := by kernel_rfl
end
abbrev azu : aP := atB gG (cT 181 cF)
theorem aAO : azu = aQ gG := by unfold azu atB; rw [bB fun _ h => h]
theorem aki (p0 : Str) : Le (Option.map cF (v8 p0)) (bA SE 162 [.d (.str p0)] [] []) := by
 refine aV aAO rfl ?_
 refine Le.trans ?_ (le_of_eq (aD3 ..).symm)
 unfold v8
 refine lQ eX uP (ajr _ _) fun r0 _ => ?_
 exact aJ rfl
def ae9 (C : aP) (Λ2 J : Lam) (a0 : List (List D)) (a1 : Bool) (a2 : Int) (a3 : Str) (a4 : List (List D)) (a5 a6 : Int) (a7 : Str) (a8 : Nat) : Res := lab SE C Λ2 J 126 0 [1, 0, 1, 1, 1, 1, 0, 1, 0, 0, 1, 1, 0, 0, 1, 1, 0] (aW [(3, .d (.sl [.str] a0)), (4, .d (.bool a1)), (5, .d (.int .i64 a2)), (6, .d (.str a3)), (15, .d (.sl [.str] a4)), (16, .d (.int .i64 a5)), (17, .d (.int .i64 a6)), (23, .it 4000)] [] [] [(4000, (a7, a8))] [])
def ani (C : aP) (Λ2 J : Lam) (a0 : List (List D)) (a1 : Bool) (a2 : List (List D)) (a3 a4 : Int) : Res := lab SE C Λ2 J 126 0 [1, 0, 1, 1, 1, 1, 0, 1, 0] (aW [(3, .d (.sl [.str] a0)), (4, .d (.bool a1)), (15, .d (.sl [.str] a2)), (16, .d (.int .i64 a3)), (17, .d (.int .i64 a4))] [] [] [] [])
section
variable (Γ : Fun) (γ161 : Gm (Bool)) (γ162 : Gm ((List Str))) (Λ2 J : Lam)
def abL : aP := aY (aY (aQ Γ) 161 stringslite_HasPrefix_out γ161) 162 cF γ162
theorem aFQ (p0 : Str) : bF SE (abL Γ γ161 γ162) Λ2 J 126 [.d (.str p0)] [] [] =
 γ161 [.d (.str p0)] [] [] fun r0 =>
 cond (!r0) (
 (rB false)) (
 γ162 [.d (.str p0)] [] [] fun r1 =>
 ani (abL Γ γ161 γ162) Λ2 J (List.map bL r1) true (List.map bL r1) (lM bL r1 : Int) 0) := by kernel_rfl
theorem azF (x3 : List Str) (x4 : Bool) (x5 : Int) (x6 : Str) (x15 : List Str) (x16 x17 : Int) (s4000 : Str) (i4000 : Nat) : bT SE (abL Γ γ161 γ162) Λ2 J 126 0 [1, 0, 1, 1, 1, 1, 0, 1, 0, 0, 1, 1, 0, 0, 1, 1, 0] (aW [(3, .d (.sl [.str] (List.map bL x3))), (4, .d (.bool x4)), (5, .d (.int .i64 x5)), (6, .d (.str x6)), (15, .d (.sl [.str] (List.map bL x15))), (16, .d (.int .i64 x16)), (17, .d (.int .i64 x17)), (23, .it 4000)] [] [] [(4000, (s4000, i4000))] []) =
 cond (decide (i4000 < List.length s4000)) (
 cond (((dec s4000 i4000).1 : Int) == 43) (
  cond (!((List.length x6 : Int) == 1)) (
  (rB false)) (
  cond (((dec s4000 i4000).1 : Int) == 35) (
  cond (!((List.length x6 : Int) == 1)) (
   (rB false)) (
  cond (decide (x5 < (w6 ((lM bL x3 : Int) - 1)))) (
   (rB false)) (
  ae9 (abL Γ γ161 γ162) Λ2 J (List.map bL x3) x4 x5 x6 (List.map bL x15) x16 x17 s4000 (i4000 + (dec s4000 i4000).2)))) (
  ae9 (abL Γ γ161 γ162) Λ2 J (List.map bL x3) x4 x5 x6 (List.map bL x15) x16 x17 s4000 (i4000 + (dec s4000 i4000).2)))) (
 cond (((dec s4000 i4000).1 : Int) == 35) (
  cond (!((List.length x6 : Int) == 1)) (
  (rB false)) (
  cond (decide (x5 < (w6 ((lM bL x3 : Int) - 1)))) (
  (rB false)) (
  ae9 (abL Γ γ161 γ162) Λ2 J (List.map bL x3) x4 x5 x6 (List.map bL x15) x16 x17 s4000 (i4000 + (dec s4000 i4000).2)))) (
 ae9 (abL Γ γ161 γ162) Λ2 J (List.map bL x3) x4 x5 x6 (List.map bL x15) x16 x17 s4000 (i4000 + (dec s4000 i4000).2)))) (
 ani (abL Γ γ161 γ162) Λ2 J (List.map bL x3) x4 (List.map bL x15) x16 (w6 (x17 + 1))) := by kernel_rfl
theorem ayk (x3 : List Str) (x4 : Bool) (x15 : List Str) (x16 x17 : Int) : bT SE (abL Γ γ161 γ162) Λ2 J 126 0 [1, 0, 1, 1, 1, 1, 0, 1, 0] (aW [(3, .d (.sl [.str] (List.map bL x3))), (4, .d (.bool x4)), (15, .d (.sl [.str] (List.map bL x15))), (16, .d (.int .i64 x16)), (17, .d (.int .i64 x17))] [] [] [] []) =
 cond (decide (x17 < x16)) (
 cond (iB x17 (lM bL x15 : Int)) (
  ae9 (abL Γ γ161 γ162) Λ2 J (List.map bL x3) x4 x17 ((bC (cE bL x15 x17 0))) (List.map bL x15) x16 x17 ((bC (cE bL x15 x17 0))) 0) none) (
 (rB x4)) := by kernel_rfl
end
abbrev alK : aP := abL gG (cT 161 stringslite_HasPrefix_out) (cT 162 cF)
theorem aqt : alK = aQ gG := by unfold alK abL; repeat rw [bB fun _ h => h]
abbrev axK := ae9 alK (bP SE gG (SE.hl 126) (SE.hr 126)) (J0 SE alK)
abbrev asM := ani alK (bP SE gG (SE.hl 126) (SE.hr 126)) (J0 SE alK)
theorem ah8 : ∀ (fu : Nat) (k6 : (List Str) → Bool → (List Str) → Int → Int → Option (Bool)) (hk6 : ∀ (x3 : List Str) (x4 : Bool) (x15 : List Str) (x16 x17 : Int), Le (Option.map stringslite_HasPrefix_out (k6 x3 x4 x15 x16 x17)) (asM (List.map bL x3) x4 (List.map bL x15) x16 x17)) (x3 : List Str) (x4 : Bool) (x5 : Int) (x6 : Str) (x15 : List Str) (x16 x17 : Int) (s4000 : Str) (i4000 : Nat), Le (Option.map stringslite_HasPrefix_out (fZ fu k6 x3 x4 x5 x6 x15 x16 x17 s4000 i4000)) (axK (List.map bL x3) x4 x5 x6 (List.map bL x15) x16 x17 s4000 i4000) := by
 intro fu
 induction fu with
 | zero => intros; exact le_none
 | succ fu ih =>
  intro k6 hk6 x3 x4 x5 x6 x15 x16 x17 s4000 i4000
  refine Le.trans ?_ (le_of_eq ((aZ aqt).trans (azF ..)).symm)
  unfold fZ
  refine lC ?_ ?_
  ·refine lC ?_ ?_
   ·refine lC ?_ ?_
    ·exact aJ rfl
    ·refine lC ?_ ?_
     ·refine lC ?_ ?_
      ·exact aJ rfl
      ·refine lD (by simp only [EN]) ?_ ?_
       ·exact aJ rfl
       ·exact ih _ hk6 x3 x4 x5 x6 x15 x16 x17 s4000 (i4000 + (dec s4000 i4000).2)
     ·exact ih _ hk6 x3 x4 x5 x6 x15 x16 x17 s4000 (i4000 + (dec s4000 i4000).2)
   ·refine lC ?_ ?_
    ·refine lC ?_ ?_
     ·exact aJ rfl
     ·refine lD (by simp only [EN]) ?_ ?_
      ·exact aJ rfl
      ·exact ih _ hk6 x3 x4 x5 x6 x15 x16 x17 s4000 (i4000 + (dec s4000 i4000).2)
    ·exact ih _ hk6 x3 x4 x5 x6 x15 x16 x17 s4000 (i4000 + (dec s4000 i4000).2)
  ·exact hk6 x3 x4 x15 x16 (w6 (x17 + 1))
theorem ahY : ∀ (fu : Nat) (x3 : List Str) (x4 : Bool) (x15 : List Str) (x16 x17 : Int), Le (Option.map stringslite_HasPrefix_out (mC fu x3 x4 x15 x16 x17)) (asM (List.map bL x3) x4 (List.map bL x15) x16 x17) := by
 intro fu
 induction fu with
 | zero => intros; exact le_none
 | succ fu ih =>
  intro x3 x4 x15 x16 x17
  refine Le.trans ?_ (le_of_eq ((aZ aqt).trans (ayk ..)).symm)
  unfold mC
  refine lC ?_ ?_
  ·refine lG (by simp only [EN]) ?_
   (try simp only [EN]); exact ah8 fuel _ (ih) x3 x4 x17 (List.getD x15 (Int.toNat x17) default) x15 x16 x17 (List.getD x15 (Int.toNat x17) default) 0
  ·exact aJ rfl
theorem adZ (p0 : Str) : Le (Option.map stringslite_HasPrefix_out (tG p0)) (bA SE 126 [.d (.str p0)] [] []) := by
 refine aV aqt rfl ?_
 refine Le.trans ?_ (le_of_eq (aFQ ..).symm)
 unfold tG
 refine lQ eX stringslite_HasPrefix_inj (aeR _) fun r0 _ => ?_
 refine lC ?_ ?_
 ·exact aJ rfl
 ·refine lQ eX uP (aki _) fun r1 _ => ?_
  (try simp only [EN]); exact ahY fuel r1 true r1 (List.length r1 : Int) 0
section
variable (Γ : Fun) (γ163 : Gm (Bool)) (Λ2 J : Lam)
def ata : aP := aY (aQ Γ) 163 stringslite_HasPrefix_out γ163
theorem aEJ (p0 p1 : Str) : bF SE (ata Γ γ163) Λ2 J 127 [.d (.str p0), .d (.str p1)] [] [] =
 γ163 [.d (.str p0), .d (.str p1)] [] [] fun r0 =>
 (rB r0) := by kernel_rfl
end
abbrev ayt : aP := ata gG (cT 163 stringslite_HasPrefix_out)
theorem aCD : ayt = aQ gG := by unfold ayt ata; rw [bB fun _ h => h]
theorem aag (p0 p1 : Str) : Le (Option.map stringslite_HasPrefix_out (mO p0 p1)) (bA SE 127 [.d (.str p0), .d (.str p1)] [] []) := by
 refine aV aCD rfl ?_
 refine Le.trans ?_ (le_of_eq (aEJ ..).symm)
 unfold mO
 refine lQ eX stringslite_HasPrefix_inj (wM _ _) fun r0 _ => ?_
 exact aJ rfl
section
variable (Γ : Fun) (γ159 : Gm (Str × Bool)) (γ160 : Gm (Str × Str × Bool)) (γ139 γ126 γ127 : Gm (Bool)) (Λ2 J : Lam)
def atN : aP := aY (aY (aY (aY (aY (aQ Γ) 159 dA γ159) 160 stringslite_Cut_out γ160) 139 stringslite_HasPrefix_out γ139) 126 stringslite_HasPrefix_out γ126) 127 stringslite_HasPrefix_out γ127
theorem aFT (p0 : Str) : bF SE (atN Γ γ159 γ160 γ139 γ126 γ127) Λ2 J 124 [.d (.str p0)] [] [] =
 γ159 [.d (.str p0), .d (.str ([36, 115, 104, 97, 114, 101, 47] : Str))] [] [] fun r0 =>
 cond (!r0.2) (
 (some (.ret [.d (.str []), .d (.str []), .d (.bool false)] [] []))) (
 γ160 [.d (.str r0.1), .d (.str ([47] : Str))] [] [] fun r1 =>
 cond (!r1.2.2) (
 (some (.ret [.d (.str []), .d (.str []), .d (.bool false)] [] []))) (
 γ139 [.d (.str r1.1)] [] [] fun r2 =>
 cond (!r2) (
 (some (.ret [.d (.str []), .d (.str []), .d (.bool false)] [] []))) (
 γ126 [.d (.str r1.2.1)] [] [] fun r3 =>
 cond (!r3) (
 (some (.ret [.d (.str []), .d (.str []), .d (.bool false)] [] []))) (
 γ127 [.d (.str r1.2.1), .d (.str ([36, 115, 104, 97, 114, 101, 47] : Str))] [] [] fun r4 =>
 cond r4 (
 (some (.ret [.d (.str []), .d (.str []), .d (.bool false)] [] []))) (
 (some (.ret [.d (.str r1.1), .d (.str r1.2.1), .d (.bool true)] [] []))))))) := by kernel_rfl
end
abbrev azH : aP := atN gG (cT 159 dA) (cT 160 stringslite_Cut_out) (cT 139 stringslite_HasPrefix_out) (cT 126 stringslite_HasPrefix_out) (cT 127 stringslite_HasPrefix_out)
theorem aBr : azH = aQ gG := by unfold azH atN; repeat rw [bB fun _ h => h]
theorem akj (p0 : Str) : Le (Option.map stringslite_Cut_out (wL p0)) (bA SE 124 [.d (.str p0)] [] []) := by
 refine aV aBr rfl ?_
 refine Le.trans ?_ (le_of_eq (aFT ..).symm)
 unfold wL
 refine lQ eX vT (aga _ _) fun r0 _ => ?_
 refine lC ?_ ?_
 ·exact aJ rfl
 ·refine lQ eX stringslite_Cut_inj (alm _ _) fun r1 _ => ?_
  refine lC ?_ ?_
  ·exact aJ rfl
  ·refine lQ eX stringslite_HasPrefix_inj (yN _) fun r2 _ => ?_
   refine lC ?_ ?_
   ·exact aJ rfl
   ·refine lQ eX stringslite_HasPrefix_inj (adZ _) fun r3 _ => ?_
    refine lC ?_ ?_
    ·exact aJ rfl
    ·refine lQ eX stringslite_HasPrefix_inj (aag _ _) fun r4 _ => ?_
     refine lC ?_ ?_
     ·exact aJ rfl
     ·exact aJ rfl
section
variable (Γ : Fun) (γ126 γ127 : Gm (Bool)) (Λ2 J : Lam)
def auY : aP := aY (aY (aQ Γ) 126 stringslite_HasPrefix_out γ126) 127 stringslite_HasPrefix_out γ127
theorem aEh (p0 : aF) : bF SE (auY Γ γ126 γ127) Λ2 J 125 [.ptr 2000000000 0] [⟨60, (aF.avs p0)⟩] [] =
 γ126 [.d (.str p0.Filter)] [] [] fun r0 =>
 cond r0 (
 γ127 [.d (.str p0.Filter), .d (.str ([36, 115, 104, 97, 114, 101, 47] : Str))] [] [] fun r1 =>
 (some (.ret [.d (.bool (!r1))] [⟨60, (aF.avs p0)⟩] []))) (
 (some (.ret [.d (.bool false)] [⟨60, (aF.avs p0)⟩] []))) := by kernel_rfl
end
abbrev axj : aP := auY gG (cT 126 stringslite_HasPrefix_out) (cT 127 stringslite_HasPrefix_out)
theorem aCS : axj = aQ gG := by unfold axj auY; repeat rw [bB fun _ h => h]
theorem afl (p0 : aF) : Le (Option.map iF (sA p0)) (bA SE 125 [.ptr 2000000000 0] [⟨60, (aF.avs p0)⟩] []) := by
 refine aV aCS rfl ?_
 refine Le.trans ?_ (le_of_eq (aEh ..).symm)
 unfold sA
 refine lQ eX stringslite_HasPrefix_inj (adZ _) fun r0 _ => ?_
 refine lC ?_ ?_
 ·refine lQ eX stringslite_HasPrefix_inj (aag _ _) fun r1 _ => ?_
  exact aJ rfl
 ·exact aJ rfl
section
variable (Γ : Fun) (γ124 : Gm (Str × Str × Bool)) (γ125 : Gm (Bool × aF)) (Λ2 J : Lam)
def C66 : aP := aY (aY (aQ Γ) 124 stringslite_Cut_out γ124) 125 iF γ125
theorem T66 (p0 : aF) : bF SE (C66 Γ γ124 γ125) Λ2 J 66 [aF.av p0] [] [] =
 γ124 [.d (.str p0.Filter)] [] [] fun r0 =>
 cond (!r0.2.2) (
 γ125 [.ptr 2000000000 0] [⟨60, (aF.avs p0)⟩] [] fun r1 =>
 cond (!r1.1) (
  (rI 13)) (
 cond (decide (r1.2.Level < 0)) (
  (rI 14)) (
 cond (decide (r1.2.Level > 2)) (
  (rI 14)) (
 cond r1.2.NoLocal (
  cond r0.2.2 (
  (rI 28)) (
  (rI 0))) (
 (rI 0)))))) (
 cond (decide (p0.Level < 0)) (
 (rI 14)) (
 cond (decide (p0.Level > 2)) (
 (rI 14)) (
 cond p0.NoLocal (
 cond r0.2.2 (
  (rI 28)) (
 (rI 0))) (
 (rI 0))))) := by kernel_rfl
end
abbrev X66 : aP := C66 gG (cT 124 stringslite_Cut_out) (cT 125 iF)
theorem aDM : X66 = aQ gG := by unfold X66 C66; repeat rw [bB fun _ h => h]
theorem aaH (p0 : aF) : Le (Option.map stringslite_IndexByte_out (nH p0)) (bA SE 66 [aF.av p0] [] []) := by
 refine aV aDM rfl ?_
 refine Le.trans ?_ (le_of_eq (T66 ..).symm)
 unfold nH
 refine lQ eX stringslite_Cut_inj (akj _) fun r0 _ => ?_
 refine lC ?_ ?_
 ·refine lQ eX aeO (afl _) fun r1 _ => ?_
  refine lC ?_ ?_
  ·exact aJ rfl
  ·refine lC ?_ ?_
   ·exact aJ rfl
   ·refine lC ?_ ?_
    ·exact aJ rfl
    ·refine lC ?_ ?_
     ·refine lC ?_ ?_
      ·exact aJ rfl
      ·exact aJ rfl
     ·exact aJ rfl
 ·refine lC ?_ ?_
  ·exact aJ rfl
  ·refine lC ?_ ?_
   ·exact aJ rfl
   ·refine lC ?_ ?_
    ·refine lC ?_ ?_
     ·exact aJ rfl
     ·exact aJ rfl
    ·exact aJ rfl
section
variable (Γ : Fun)  (Λ2 J : Lam)
def ay8 : aP := aQ Γ
theorem aGs (p0 p1 : Str) : bF SE (ay8 Γ) Λ2 J 164 [.d (.str p0), .d (.str p1)] [] [] =
 (rI (Lib.compareBytes p0 p1)) := by kernel_rfl
end
abbrev aEI : aP := ay8 gG
theorem aCZ : aEI = aQ gG := rfl
theorem ada (p0 p1 : Str) : Le (Option.map stringslite_IndexByte_out (tH p0 p1)) (bA SE 164 [.d (.str p0), .d (.str p1)] [] []) := by
 refine aV aCZ rfl ?_
 refine Le.trans ?_ (le_of_eq (aGs ..).symm)
 unfold tH
 exact aJ rfl
section
variable (Γ : Fun) (γ164 : Gm (Int)) (Λ2 J : Lam)
def auK : aP := aY (aQ Γ) 164 stringslite_IndexByte_out γ164
theorem aGp (p0 p1 : Str) : bF SE (auK Γ γ164) Λ2 J 130 [.d (.str p0), .d (.str p1)] [] [] =
 γ164 [.d (.str p0), .d (.str p1)] [] [] fun r0 =>
 (rI r0) := by kernel_rfl
end
abbrev azs : aP := auK gG (cT 164 stringslite_IndexByte_out)
theorem aCl : azs = aQ gG := by unfold azs auK; rw [bB fun _ h => h]
theorem ahi (p0 p1 : Str) : Le (Option.map stringslite_IndexByte_out (zU p0 p1)) (bA SE 130 [.d (.str p0), .d (.str p1)] [] []) := by
 refine aV aCl rfl ?_
 refine Le.trans ?_ (le_of_eq (aGp ..).symm)
 unfold zU
 refine lQ eX stringslite_IndexByte_inj (ada _ _) fun r0 _ => ?_
 exact aJ rfl
section
variable (Γ : Fun) (γ130 : Gm (Int)) (Λ2 J : Lam)
def aue : aP := aY (aQ Γ) 130 stringslite_IndexByte_out γ130
theorem aFg (p0 : aF) (p1 : Str) : bF SE (aue Γ γ130) Λ2 J 129 [aF.av p0, .d (.str p1)] [] [] =
 γ130 [.d (.str p0.Filter), .d (.str p1)] [] [] fun r0 =>
 (rI r0) := by kernel_rfl
end
abbrev awD : aP := aue gG (cT 130 stringslite_IndexByte_out)
theorem aCk : awD = aQ gG := by unfold awD aue; rw [bB fun _ h => h]
theorem abT (p0 : aF) (p1 : Str) : Le (Option.map stringslite_IndexByte_out (wW p0 p1)) (bA SE 129 [aF.av p0, .d (.str p1)] [] []) := by
 refine aV aCk rfl ?_
 refine Le.trans ?_ (le_of_eq (aFg ..).symm)
 unfold wW
 refine lQ eX stringslite_IndexByte_inj (ahi _ _) fun r0 _ => ?_
 exact aJ rfl
def akx (C : aP) (Λ2 J : Lam) (a0 : List (List D)) (a1 : Str) (a2 a3 a4 : Int) : Res := lab SE C Λ2 J 128 0 [1, 1, 1, 0, 0] (aW [(0, .d (.sl aF.ks a0)), (1, .d (.str a1)), (2, .fn 129 [] []), (8, .d (.int .i64 a2)), (9, .d (.int .i64 a3)), (10, .d (.int .i64 a4))] [] [] [] [])
section
variable (Γ : Fun) (γ129 : Gm (Int)) (Λ2 J : Lam)
def aje : aP := aY (aQ Γ) 129 stringslite_IndexByte_out γ129
theorem aEs (p0 : List aF) (p1 : Str) : bF SE (aje Γ γ129) Λ2 J 128 [.d (.sl aF.ks (List.map aF.enc p0)), .d (.str p1), .fn 129 [] []] [] [] =
 akx (aje Γ γ129) Λ2 J (List.map aF.enc p0) p1 (lM aF.enc p0 : Int) 0 (lM aF.enc p0 : Int) := by kernel_rfl
theorem azX (x0 : List aF) (x1 : Str) (x8 x9 x10 : Int) : bT SE (aje Γ γ129) Λ2 J 128 0 [1, 1, 1, 0, 0] (aW [(0, .d (.sl aF.ks (List.map aF.enc x0))), (1, .d (.str x1)), (2, .fn 129 [] []), (8, .d (.int .i64 x8)), (9, .d (.int .i64 x9)), (10, .d (.int .i64 x10))] [] [] [] []) =
 cond (decide (x9 < x10)) (
 cond (iB (w6 (shr .u64 (IntKind.wrap .u64 (w6 (x9 + x10))) 1)) (lM aF.enc x0 : Int)) (
  γ129 [.agg [.d (.str (bC (cE aF.enc x0 (w6 (shr .u64 (IntKind.wrap .u64 (w6 (x9 + x10))) 1)) 0))), .d (.int .i64 (aR (cE aF.enc x0 (w6 (shr .u64 (IntKind.wrap .u64 (w6 (x9 + x10))) 1)) 1))), .d (.bool (bM (cE aF.enc x0 (w6 (shr .u64 (IntKind.wrap .u64 (w6 (x9 + x10))) 1)) 2)))], .d (.str x1)] [] [] fun r0 =>
  cond (decide (r0 < 0)) (
  akx (aje Γ γ129) Λ2 J (List.map aF.enc x0) x1 x8 (w6 ((w6 (shr .u64 (IntKind.wrap .u64 (w6 (x9 + x10))) 1)) + 1)) x10) (
  akx (aje Γ γ129) Λ2 J (List.map aF.enc x0) x1 x8 x9 (w6 (shr .u64 (IntKind.wrap .u64 (w6 (x9 + x10))) 1)))) none) (
 cond (decide (x9 < x8)) (
 cond (iB x9 (lM aF.enc x0 : Int)) (
  γ129 [.agg [.d (.str (bC (cE aF.enc x0 x9 0))), .d (.int .i64 (aR (cE aF.enc x0 x9 1))), .d (.bool (bM (cE aF.enc x0 x9 2)))], .d (.str x1)] [] [] fun r1 =>
  (some (.ret [.d (.int .i64 x9), .d (.bool (r1 == 0))] [] []))) none) (
 (some (.ret [.d (.int .i64 x9), .d (.bool false)] [] [])))) := by kernel_rfl
end
abbrev aqx : aP := aje gG (cT 129 stringslite_IndexByte_out)
theorem avb : aqx = aQ gG := by unfold aqx aje; rw [bB fun _ h => h]
abbrev aw4 := akx aqx (bP SE gG (SE.hl 128) (SE.hr 128)) (J0 SE aqx)
theorem nU : ∀ (fu : Nat) (x0 : List aF) (x1 : Str) (x8 x9 x10 : Int), Le (Option.map aX (cR fu x0 x1 x8 x9 x10)) (aw4 (List.map aF.enc x0) x1 x8 x9 x10) := by
 intro fu
 induction fu with
 | zero => intros; exact le_none
 | succ fu ih =>
  intro x0 x1 x8 x9 x10
  refine Le.trans ?_ (le_of_eq ((aZ avb).trans (azX ..)).symm)
  unfold cR
  refine lC ?_ ?_
  ·refine lG (by simp only [EN]) ?_
   refine lQ eX stringslite_IndexByte_inj (by (try simp only [EN]); exact abT (List.getD x0 (Int.toNat (w6 (shr .u64 (IntKind.wrap .u64 (w6 (x9 + x10))) 1))) default) x1) fun r0 _ => ?_
   refine lC ?_ ?_
   ·exact ih x0 x1 x8 (w6 ((w6 (shr .u64 (IntKind.wrap .u64 (w6 (x9 + x10))) 1)) + 1)) x10
   ·exact ih x0 x1 x8 x9 (w6 (shr .u64 (IntKind.wrap .u64 (w6 (x9 + x10))) 1))
  ·refine lC ?_ ?_
   ·refine lG (by simp only [EN]) ?_
    refine lQ eX stringslite_IndexByte_inj (by (try simp only [EN]); exact abT (List.getD x0 (Int.toNat x9) default) x1) fun r1 _ => ?_
    exact aJ rfl
   ·exact aJ rfl
theorem oV (p0 : List aF) (p1 : Str) : Le (Option.map aX (eW p0 p1)) (bA SE 128 [.d (.sl aF.ks (List.map aF.enc p0)), .d (.str p1), .fn 129 [] []] [] []) := by
 refine aV avb rfl ?_
 refine Le.trans ?_ (le_of_eq (aEs ..).symm)
 unfold eW
 (try simp only [EN]); exact nU fuel p0 p1 (List.length p0 : Int) 0 (List.length p0 : Int)
section
variable (Γ : Fun) (γ128 : Gm (Int × Bool)) (Λ2 J : Lam)
def C67 : aP := aY (aQ Γ) 128 aX γ128
theorem T67 (p0 : List aF) (p1 : Str) : bF SE (C67 Γ γ128) Λ2 J 67 [.d (.sl aF.ks (List.map aF.enc p0)), .d (.str p1)] [] [] =
 γ128 [.d (.sl aF.ks (List.map aF.enc p0)), .d (.str p1), .fn 129 [] []] [] [] fun r0 =>
 (some (.ret [.d (.int .i64 r0.1), .d (.bool r0.2)] [] [])) := by kernel_rfl
end
abbrev X67 : aP := C67 gG (cT 128 aX)
theorem aFd : X67 = aQ gG := by unfold X67 C67; rw [bB fun _ h => h]
theorem ad5 (p0 : List aF) (p1 : Str) : Le (Option.map aX (zZ p0 p1)) (bA SE 67 [.d (.sl aF.ks (List.map aF.enc p0)), .d (.str p1)] [] []) := by
 refine aV aFd rfl ?_
 refine Le.trans ?_ (le_of_eq (T67 ..).symm)
 unfold zZ
 refine lQ eX cG (oV _ _) fun r0 _ => ?_
 exact aJ rfl
section
variable (Γ : Fun)  (Λ2 J : Lam)
def ax5 : aP := aQ Γ
theorem aFK (p0 : List aF) : bF SE (ax5 Γ) Λ2 J 103 [.d (.sl aF.ks (List.map aF.enc p0))] [] [] =
 cond (List.isEmpty (List.map aF.enc p0)) (
 abh (
  (some (.ret [.row 0] [] [⟨aF.ks, 60, 32, []⟩]))) (
  cond (decide ((lM aF.enc [] + lM aF.enc p0) * 32 ≤ 140737488355328)) (
  (some (.ret [.row 0] [] [⟨aF.ks, 60, 32, ((List.map aF.enc []) ++ (List.map aF.enc p0))⟩]))) none)) (
 cond (decide ((lM aF.enc [] + lM aF.enc p0) * 32 ≤ 140737488355328)) (
 (some (.ret [.row 0] [] [⟨aF.ks, 60, 32, ((List.map aF.enc []) ++ (List.map aF.enc p0))⟩]))) none) := by kernel_rfl
end
abbrev aES : aP := ax5 gG
theorem aCB : aES = aQ gG := rfl
theorem xO (p0 : List aF) : Le (Option.map bJ (fT p0)) (bA SE 103 [.d (.sl aF.ks (List.map aF.enc p0))] [] []) := by
 refine aV aCB rfl ?_
 refine Le.trans ?_ (le_of_eq (aFK ..).symm)
 unfold fT
 refine lD (by simp only [EN]) ?_ ?_
 ·refine alH ?_ ?_
  ·exact aJ rfl
  ·refine lG (by simp only [EN]) ?_
   exact aJ rfl
 ·refine lG (by simp only [EN]) ?_
  exact aJ rfl
section
variable (Γ : Fun)  (Λ2 J : Lam)
def az7 : aP := aQ Γ
theorem aFA (p0 : List Int) : bF SE (az7 Γ) Λ2 J 104 [.d (.sl [.int .i64] (List.map eI p0))] [] [] =
 cond (List.isEmpty (List.map eI p0)) (
 abh (
  (some (.ret [.row 0] [] [⟨[.int .i64], 3, 8, []⟩]))) (
  cond (decide ((lM eI [] + lM eI p0) * 8 ≤ 140737488355328)) (
  (some (.ret [.row 0] [] [⟨[.int .i64], 3, 8, ((List.map eI []) ++ (List.map eI p0))⟩]))) none)) (
 cond (decide ((lM eI [] + lM eI p0) * 8 ≤ 140737488355328)) (
 (some (.ret [.row 0] [] [⟨[.int .i64], 3, 8, ((List.map eI []) ++ (List.map eI p0))⟩]))) none) := by kernel_rfl
end
abbrev aEH : aP := az7 gG
theorem aA1 : aEH = aQ gG := rfl
theorem hJ (p0 : List Int) : Le (Option.map bI (dV p0)) (bA SE 104 [.d (.sl [.int .i64] (List.map eI p0))] [] []) := by
 refine aV aA1 rfl ?_
 refine Le.trans ?_ (le_of_eq (aFA ..).symm)
 unfold dV
 refine lD (by simp only [EN]) ?_ ?_
 ·refine alH ?_ ?_
  ·exact aJ rfl
  ·refine lG (by simp only [EN]) ?_
   exact aJ rfl
 ·refine lG (by simp only [EN]) ?_
  exact aJ rfl
def aoD (C : aP) (Λ2 J : Lam) (a0 : List (List D)) (a1 a2 : Int) (a3 a4 : Str) (a5 : Bool) (a6 a7 a8 a9 a10 : Int) (a11 a12 : List (List D)) (a13 : Int) (a14 : List (List D)) (a15 : Bool) (a16 : Int) (a17 a18 : Str) (a19 : Int) (a20 : Bool) (a21 a22 : Int) (a23 : Str) (a24 : Int) (a25 : List (List D)) (a26 : List D) (a27 a28 a29 : List (List D)) : Res := lab SE C Λ2 J 50 0 [1, 1, 1, 1, 1, 1, 0, 1, 0] (aW [(1, .ptr 1000000000 0), (2, .ptr 1000000001 0), (6, .row 3006), (39, .d (.sl aD.ks a0)), (40, .d (.int .i64 a1)), (41, .d (.int .i64 a2))] [⟨38, [.d (.str a3), .d (.str a4), .d (.bool a5), .d (.int .i64 a6), .d (.int .i64 a7), .d (.int .i64 a8), .d (.int .i64 a9), .row 50007, .row 50008, .d (.int .i64 a10), .d (.sl aD.ks a11), .d (.sl [.int .i64] a12), .d (.int .i64 a13), .d (.sl [.int .i64] a14), .d (.bool a15), .d (.int .i64 a16), .d (.str a17), .d (.str a18), .d (.int .i64 a19), .d (.bool a20), .d (.int .i64 a21), .d (.int .i64 a22), .d (.str a23), .d (.int .i64 a24), .d (.sl aG.ks a25)]⟩, ⟨38, (List.map AV.d a26)⟩] [] [] [(3006, ⟨aD.ks, 122, 128, a27⟩), (50007, ⟨aF.ks, 60, 32, a28⟩), (50008, ⟨aA.ks, 34, 112, a29⟩)])
def arp (C : aP) (Λ2 J : Lam) (a0 : List (List D)) (a1 a2 : Int) (a3 a4 : Str) (a5 : Bool) (a6 a7 a8 a9 : Int) (a10 : List (List D)) (a11 : Int) (a12 a13 : List (List D)) (a14 : Int) (a15 : List (List D)) (a16 : Bool) (a17 : Int) (a18 a19 : Str) (a20 : Int) (a21 : Bool) (a22 a23 : Int) (a24 : Str) (a25 : Int) (a26 : List (List D)) (a27 : List D) (a28 a29 : List (List D)) : Res := lab SE C Λ2 J 50 0 [1, 1, 1, 0, 1, 0] (aW [(1, .ptr 1000000000 0), (2, .ptr 1000000001 0), (3, .row 3003), (18, .d (.sl aA.ks a0)), (19, .d (.int .i64 a1)), (20, .d (.int .i64 a2))] [⟨38, [.d (.str a3), .d (.str a4), .d (.bool a5), .d (.int .i64 a6), .d (.int .i64 a7), .d (.int .i64 a8), .d (.int .i64 a9), .row 50007, .d (.sl aA.ks a10), .d (.int .i64 a11), .d (.sl aD.ks a12), .d (.sl [.int .i64] a13), .d (.int .i64 a14), .d (.sl [.int .i64] a15), .d (.bool a16), .d (.int .i64 a17), .d (.str a18), .d (.str a19), .d (.int .i64 a20), .d (.bool a21), .d (.int .i64 a22), .d (.int .i64 a23), .d (.str a24), .d (.int .i64 a25), .d (.sl aG.ks a26)]⟩, ⟨38, (List.map AV.d a27)⟩] [] [] [(3003, ⟨aA.ks, 34, 112, a28⟩), (50007, ⟨aF.ks, 60, 32, a29⟩)])
section
variable (Γ : Fun) (γ103 : Gm ((List aF))) (γ80 : Gm (aA)) (γ104 : Gm ((List Int))) (Λ2 J : Lam)
def C50 : aP := aY (aY (aY (aQ Γ) 103 bJ γ103) 80 bW γ80) 104 bI γ104
theorem T50 (p0 : aB) : bF SE (C50 Γ γ103 γ80 γ104) Λ2 J 50 [aB.av p0] [] [] =
 γ103 [.d (.sl aF.ks (List.map aF.enc p0.Subs))] [] [] fun r0 =>
 cond (decide (0 ≤ 0) && decide (0 ≤ (lM aA.enc p0.Queue : Int)) && decide ((lM aA.enc p0.Queue : Int) * 112 ≤ 281474976710656)) (
 arp (C50 Γ γ103 γ80 γ104) Λ2 J (List.map aA.enc p0.Queue) (lM aA.enc p0.Queue : Int) 0 p0.Client p0.User p0.Online p0.Conn p0.Expiry p0.Until p0.Dropped (List.map aA.enc p0.Queue) p0.Out.Limit (List.map aD.enc p0.Out.Items) (List.map eI p0.Out.Pool.Used) p0.Out.Pool.Last (List.map eI p0.In.IDs) p0.Will.Set p0.Will.Delay p0.Will.Message.Topic p0.Will.Message.Payload p0.Will.Message.Level p0.Will.Message.Retain p0.Will.Message.Priority p0.Will.Message.Expires p0.Will.Message.From p0.Will.Message.Seq (List.map aG.enc p0.Will.Message.Props) [D.str [], D.str [], D.bool false, D.int .i64 0, D.int .i64 0, D.int .i64 0, D.int .i64 0, D.sl aF.ks (List.map aF.enc []), D.sl aA.ks (List.map aA.enc []), D.int .i64 0, D.sl aD.ks (List.map aD.enc []), D.sl [.int .i64] (List.map eI []), D.int .i64 0, D.sl [.int .i64] (List.map eI []), D.bool false, D.int .i64 0, D.str [], D.str [], D.int .i64 0, D.bool false, D.int .i64 0, D.int .i64 0, D.str [], D.int .i64 0, D.sl aG.ks (List.map aG.enc [])] (List.map aA.enc []) (List.map aF.enc r0)) none := by kernel_rfl
theorem axc (x39 : List aD) (x40 x41 : Int) (b0_0 b0_1 : Str) (b0_2 : Bool) (b0_3 b0_4 b0_5 b0_6 b0_9 : Int) (b0_10 : List aD) (b0_11 : List Int) (b0_12 : Int) (b0_13 : List Int) (b0_14 : Bool) (b0_15 : Int) (b0_16 b0_17 : Str) (b0_18 : Int) (b0_19 : Bool) (b0_20 b0_21 : Int) (b0_22 : Str) (b0_23 : Int) (b0_24 : List aG) (b1 : aB) (w3006 : List aD) (w50007 : List aF) (w50008 : List aA) : bT SE (C50 Γ γ103 γ80 γ104) Λ2 J 50 0 [1, 1, 1, 1, 1, 1, 0, 1, 0] (aW [(1, .ptr 1000000000 0), (2, .ptr 1000000001 0), (6, .row 3006), (39, .d (.sl aD.ks (List.map aD.enc x39))), (40, .d (.int .i64 x40)), (41, .d (.int .i64 x41))] [⟨38, [.d (.str b0_0), .d (.str b0_1), .d (.bool b0_2), .d (.int .i64 b0_3), .d (.int .i64 b0_4), .d (.int .i64 b0_5), .d (.int .i64 b0_6), .row 50007, .row 50008, .d (.int .i64 b0_9), .d (.sl aD.ks (List.map aD.enc b0_10)), .d (.sl [.int .i64] (List.map eI b0_11)), .d (.int .i64 b0_12), .d (.sl [.int .i64] (List.map eI b0_13)), .d (.bool b0_14), .d (.int .i64 b0_15), .d (.str b0_16), .d (.str b0_17), .d (.int .i64 b0_18), .d (.bool b0_19), .d (.int .i64 b0_20), .d (.int .i64 b0_21), .d (.str b0_22), .d (.int .i64 b0_23), .d (.sl aG.ks (List.map aG.enc b0_24))]⟩, ⟨38, (List.map AV.d (aB.enc b1))⟩] [] [] [(3006, ⟨aD.ks, 122, 128, (List.map aD.enc w3006)⟩), (50007, ⟨aF.ks, 60, 32, (List.map aF.enc w50007)⟩), (50008, ⟨aA.ks, 34, 112, (List.map aA.enc w50008)⟩)]) =
 cond (decide (x41 < x40)) (
 cond (iB x41 (lM aD.enc x39 : Int)) (
  γ80 [.agg [.d (.str (bC (cE aD.enc x39 x41 2))), .d (.str (bC (cE aD.enc x39 x41 3))), .d (.int .i64 (aR (cE aD.enc x39 x41 4))), .d (.bool (bM (cE aD.enc x39 x41 5))), .d (.int .i64 (aR (cE aD.enc x39 x41 6))), .d (.int .i64 (aR (cE aD.enc x39 x41 7))), .d (.str (bC (cE aD.enc x39 x41 8))), .d (.int .i64 (aR (cE aD.enc x39 x41 9))), .d (.sl aG.ks (dSl (cE aD.enc x39 x41 10)))]] [] [] fun r2 =>
  cond (decide ((lM aD.enc w3006 + List.length [[D.int .i64 (aR (cE aD.enc x39 x41 0)), D.int .i64 (aR (cE aD.enc x39 x41 1)), D.str r2.Topic, D.str r2.Payload, D.int .i64 r2.Level, D.bool r2.Retain, D.int .i64 r2.Priority, D.int .i64 r2.Expires, D.str r2.From, D.int .i64 r2.Seq, D.sl aG.ks (List.map aG.enc r2.Props)]]) * 128 ≤ 140737488355328)) (
  aoD (C50 Γ γ103 γ80 γ104) Λ2 J (List.map aD.enc x39) x40 (w6 (x41 + 1)) b0_0 b0_1 b0_2 b0_3 b0_4 b0_5 b0_6 b0_9 (List.map aD.enc b0_10) (List.map eI b0_11) b0_12 (List.map eI b0_13) b0_14 b0_15 b0_16 b0_17 b0_18 b0_19 b0_20 b0_21 b0_22 b0_23 (List.map aG.enc b0_24) (aB.enc b1) (((List.map aD.enc w3006) ++ [[D.int .i64 (aR (cE aD.enc x39 x41 0)), D.int .i64 (aR (cE aD.enc x39 x41 1)), D.str r2.Topic, D.str r2.Payload, D.int .i64 r2.Level, D.bool r2.Retain, D.int .i64 r2.Priority, D.int .i64 r2.Expires, D.str r2.From, D.int .i64 r2.Seq, D.sl aG.ks (List.map aG.enc r2.Props)]])) (List.map aF.enc w50007) (List.map aA.enc w50008)) none) none) (
 γ104 [.d (.sl [.int .i64] (List.map eI b0_11))] [] [] fun r3 =>
 γ104 [.d (.sl [.int .i64] (List.map eI b0_13))] [] [] fun r4 =>
 γ80 [aA.av (aA.mk b0_16 b0_17 b0_18 b0_19 b0_20 b0_21 b0_22 b0_23 b0_24)] [] [] fun r5 =>
 (some (.ret [.agg [.d (.str b0_0), .d (.str b0_1), .d (.bool b0_2), .d (.int .i64 b0_3), .d (.int .i64 b0_4), .d (.int .i64 b0_5), .d (.int .i64 b0_6), .row 0, .row 1, .d (.int .i64 b0_9), .row 2, .row 3, .d (.int .i64 b0_12), .row 4, .d (.bool b0_14), .d (.int .i64 b0_15), .d (.str r5.Topic), .d (.str r5.Payload), .d (.int .i64 r5.Level), .d (.bool r5.Retain), .d (.int .i64 r5.Priority), .d (.int .i64 r5.Expires), .d (.str r5.From), .d (.int .i64 r5.Seq), .row 5]] [] [⟨aF.ks, 60, 32, (List.map aF.enc w50007)⟩, ⟨aA.ks, 34, 112, (List.map aA.enc w50008)⟩, ⟨aD.ks, 122, 128, (List.map aD.enc w3006)⟩, ⟨[.int .i64], 3, 8, (List.map eI r3)⟩, ⟨[.int .i64], 3, 8, (List.map eI r4)⟩, ⟨aG.ks, 130, 32, (List.map aG.enc r5.Props)⟩]))) := by kernel_rfl
theorem aBU (x18 : List aA) (x19 x20 : Int) (b0_0 b0_1 : Str) (b0_2 : Bool) (b0_3 b0_4 b0_5 b0_6 : Int) (b0_8 : List aA) (b0_9 : Int) (b0_10 : List aD) (b0_11 : List Int) (b0_12 : Int) (b0_13 : List Int) (b0_14 : Bool) (b0_15 : Int) (b0_16 b0_17 : Str) (b0_18 : Int) (b0_19 : Bool) (b0_20 b0_21 : Int) (b0_22 : Str) (b0_23 : Int) (b0_24 : List aG) (b1 : aB) (w3003 : List aA) (w50007 : List aF) : bT SE (C50 Γ γ103 γ80 γ104) Λ2 J 50 0 [1, 1, 1, 0, 1, 0] (aW [(1, .ptr 1000000000 0), (2, .ptr 1000000001 0), (3, .row 3003), (18, .d (.sl aA.ks (List.map aA.enc x18))), (19, .d (.int .i64 x19)), (20, .d (.int .i64 x20))] [⟨38, [.d (.str b0_0), .d (.str b0_1), .d (.bool b0_2), .d (.int .i64 b0_3), .d (.int .i64 b0_4), .d (.int .i64 b0_5), .d (.int .i64 b0_6), .row 50007, .d (.sl aA.ks (List.map aA.enc b0_8)), .d (.int .i64 b0_9), .d (.sl aD.ks (List.map aD.enc b0_10)), .d (.sl [.int .i64] (List.map eI b0_11)), .d (.int .i64 b0_12), .d (.sl [.int .i64] (List.map eI b0_13)), .d (.bool b0_14), .d (.int .i64 b0_15), .d (.str b0_16), .d (.str b0_17), .d (.int .i64 b0_18), .d (.bool b0_19), .d (.int .i64 b0_20), .d (.int .i64 b0_21), .d (.str b0_22), .d (.int .i64 b0_23), .d (.sl aG.ks (List.map aG.enc b0_24))]⟩, ⟨38, (List.map AV.d (aB.enc b1))⟩] [] [] [(3003, ⟨aA.ks, 34, 112, (List.map aA.enc w3003)⟩), (50007, ⟨aF.ks, 60, 32, (List.map aF.enc w50007)⟩)]) =
 cond (decide (x20 < x19)) (
 cond (iB x20 (lM aA.enc x18 : Int)) (
  γ80 [.agg [.d (.str (bC (cE aA.enc x18 x20 0))), .d (.str (bC (cE aA.enc x18 x20 1))), .d (.int .i64 (aR (cE aA.enc x18 x20 2))), .d (.bool (bM (cE aA.enc x18 x20 3))), .d (.int .i64 (aR (cE aA.enc x18 x20 4))), .d (.int .i64 (aR (cE aA.enc x18 x20 5))), .d (.str (bC (cE aA.enc x18 x20 6))), .d (.int .i64 (aR (cE aA.enc x18 x20 7))), .d (.sl aG.ks (dSl (cE aA.enc x18 x20 8)))]] [] [] fun r1 =>
  cond (decide ((lM aA.enc w3003 + lM aA.enc [r1]) * 112 ≤ 140737488355328)) (
  arp (C50 Γ γ103 γ80 γ104) Λ2 J (List.map aA.enc x18) x19 (w6 (x20 + 1)) b0_0 b0_1 b0_2 b0_3 b0_4 b0_5 b0_6 (List.map aA.enc b0_8) b0_9 (List.map aD.enc b0_10) (List.map eI b0_11) b0_12 (List.map eI b0_13) b0_14 b0_15 b0_16 b0_17 b0_18 b0_19 b0_20 b0_21 b0_22 b0_23 (List.map aG.enc b0_24) (aB.enc b1) (((List.map aA.enc w3003) ++ (List.map aA.enc [r1]))) (List.map aF.enc w50007)) none) none) (
 cond (decide (0 ≤ 0) && decide (0 ≤ (lM aD.enc b0_10 : Int)) && decide ((lM aD.enc b0_10 : Int) * 128 ≤ 281474976710656)) (
 aoD (C50 Γ γ103 γ80 γ104) Λ2 J (List.map aD.enc b0_10) (lM aD.enc b0_10 : Int) 0 b0_0 b0_1 b0_2 b0_3 b0_4 b0_5 b0_6 b0_9 (List.map aD.enc b0_10) (List.map eI b0_11) b0_12 (List.map eI b0_13) b0_14 b0_15 b0_16 b0_17 b0_18 b0_19 b0_20 b0_21 b0_22 b0_23 (List.map aG.enc b0_24) (aB.enc b1) (List.map aD.enc []) (List.map aF.enc w50007) (List.map aA.enc w3003)) none) := by kernel_rfl
end
abbrev X50 : aP := C50 gG (cT 103 bJ) (cT 80 bW) (cT 104 bI)
theorem aum : X50 = aQ gG := by unfold X50 C50; repeat rw [bB fun _ h => h]
abbrev axw := aoD X50 (bP SE gG (SE.hl 50) (SE.hr 50)) (J0 SE X50)
abbrev aCP := arp X50 (bP SE gG (SE.hl 50) (SE.hr 50)) (J0 SE X50)
theorem afR : ∀ (fu : Nat) (x39 : List aD) (x40 x41 : Int) (b0_0 b0_1 : Str) (b0_2 : Bool) (b0_3 b0_4 b0_5 b0_6 b0_9 : Int) (b0_10 : List aD) (b0_11 : List Int) (b0_12 : Int) (b0_13 : List Int) (b0_14 : Bool) (b0_15 : Int) (b0_16 b0_17 : Str) (b0_18 : Int) (b0_19 : Bool) (b0_20 b0_21 : Int) (b0_22 : Str) (b0_23 : Int) (b0_24 : List aG) (b1 : aB) (w3006 : List aD) (w50007 : List aF) (w50008 : List aA), Le (Option.map cB (jW fu x39 x40 x41 b0_0 b0_1 b0_2 b0_3 b0_4 b0_5 b0_6 b0_9 b0_10 b0_11 b0_12 b0_13 b0_14 b0_15 b0_16 b0_17 b0_18 b0_19 b0_20 b0_21 b0_22 b0_23 b0_24 b1 w3006 w50007 w50008)) (axw (List.map aD.enc x39) x40 x41 b0_0 b0_1 b0_2 b0_3 b0_4 b0_5 b0_6 b0_9 (List.map aD.enc b0_10) (List.map eI b0_11) b0_12 (List.map eI b0_13) b0_14 b0_15 b0_16 b0_17 b0_18 b0_19 b0_20 b0_21 b0_22 b0_23 (List.map aG.enc b0_24) (aB.enc b1) (List.map aD.enc w3006) (List.map aF.enc w50007) (List.map aA.enc w50008)) := by
 intro fu
 induction fu with
 | zero => intros; exact le_none
 | succ fu ih =>
  intro x39 x40 x41 b0_0 b0_1 b0_2 b0_3 b0_4 b0_5 b0_6 b0_9 b0_10 b0_11 b0_12 b0_13 b0_14 b0_15 b0_16 b0_17 b0_18 b0_19 b0_20 b0_21 b0_22 b0_23 b0_24 b1 w3006 w50007 w50008
  refine Le.trans ?_ (le_of_eq ((aZ aum).trans (axc ..)).symm)
  unfold jW
  refine lC ?_ ?_
  ·refine lG (by simp only [EN]) ?_
   refine lQ eX dB (by (try simp only [EN]); exact mP ((List.getD x39 (Int.toNat x41) default).Message)) fun r2 _ => ?_
   refine lG (by simp only [EN]) ?_
   (try simp only [EN]); exact ih x39 x40 (w6 (x41 + 1)) b0_0 b0_1 b0_2 b0_3 b0_4 b0_5 b0_6 b0_9 b0_10 b0_11 b0_12 b0_13 b0_14 b0_15 b0_16 b0_17 b0_18 b0_19 b0_20 b0_21 b0_22 b0_23 b0_24 b1 ((w3006 ++ [(aD.mk (List.getD x39 (Int.toNat x41) default).ID (List.getD x39 (Int.toNat x41) default).State r2)])) w50007 w50008
  ·refine lQ eX dN (hJ _) fun r3 _ => ?_
   refine lQ eX dN (hJ _) fun r4 _ => ?_
   refine lQ eX dB (mP _) fun r5 _ => ?_
   exact aJ rfl
theorem agN : ∀ (fu : Nat) (x18 : List aA) (x19 x20 : Int) (b0_0 b0_1 : Str) (b0_2 : Bool) (b0_3 b0_4 b0_5 b0_6 : Int) (b0_8 : List aA) (b0_9 : Int) (b0_10 : List aD) (b0_11 : List Int) (b0_12 : Int) (b0_13 : List Int) (b0_14 : Bool) (b0_15 : Int) (b0_16 b0_17 : Str) (b0_18 : Int) (b0_19 : Bool) (b0_20 b0_21 : Int) (b0_22 : Str) (b0_23 : Int) (b0_24 : List aG) (b1 : aB) (w3003 : List aA) (w50007 : List aF), Le (Option.map cB (kQ fu x18 x19 x20 b0_0 b0_1 b0_2 b0_3 b0_4 b0_5 b0_6 b0_8 b0_9 b0_10 b0_11 b0_12 b0_13 b0_14 b0_15 b0_16 b0_17 b0_18 b0_19 b0_20 b0_21 b0_22 b0_23 b0_24 b1 w3003 w50007)) (aCP (List.map aA.enc x18) x19 x20 b0_0 b0_1 b0_2 b0_3 b0_4 b0_5 b0_6 (List.map aA.enc b0_8) b0_9 (List.map aD.enc b0_10) (List.map eI b0_11) b0_12 (List.map eI b0_13) b0_14 b0_15 b0_16 b0_17 b0_18 b0_19 b0_20 b0_21 b0_22 b0_23 (List.map aG.enc b0_24) (aB.enc b1) (List.map aA.enc w3003) (List.map aF.enc w50007)) := by
 intro fu
 induction fu with
 | zero => intros; exact le_none
 | succ fu ih =>
  intro x18 x19 x20 b0_0 b0_1 b0_2 b0_3 b0_4 b0_5 b0_6 b0_8 b0_9 b0_10 b0_11 b0_12 b0_13 b0_14 b0_15 b0_16 b0_17 b0_18 b0_19 b0_20 b0_21 b0_22 b0_23 b0_24 b1 w3003 w50007
  refine Le.trans ?_ (le_of_eq ((aZ aum).trans (aBU ..)).symm)
  unfold kQ
  refine lC ?_ ?_
  ·refine lG (by simp only [EN]) ?_
   refine lQ eX dB (by (try simp only [EN]); exact mP (List.getD x18 (Int.toNat x20) default)) fun r1 _ => ?_
   refine lG (by simp only [EN]) ?_
   (try simp only [EN]); exact ih x18 x19 (w6 (x20 + 1)) b0_0 b0_1 b0_2 b0_3 b0_4 b0_5 b0_6 b0_8 b0_9 b0_10 b0_11 b0_12 b0_13 b0_14 b0_15 b0_16 b0_17 b0_18 b0_19 b0_20 b0_21 b0_22 b0_23 b0_24 b1 (w3003 ++ [r1]) w50007
  ·refine lG (by simp only [EN]) ?_
   (try simp only [EN]); exact afR fuel b0_10 (List.length b0_10 : Int) 0 b0_0 b0_1 b0_2 b0_3 b0_4 b0_5 b0_6 b0_9 b0_10 b0_11 b0_12 b0_13 b0_14 b0_15 b0_16 b0_17 b0_18 b0_19 b0_20 b0_21 b0_22 b0_23 b0_24 b1 [] w50007 w3003
theorem jI (p0 : aB) : Le (Option.map cB (gO p0)) (bA SE 50 [aB.av p0] [] []) := by
 refine aV aum rfl ?_
 refine Le.trans ?_ (le_of_eq (T50 ..).symm)
 unfold gO
 refine lQ eX eD (xO _) fun r0 _ => ?_
 refine lG (by simp only [EN]) ?_
 (try simp only [EN]); exact agN fuel p0.Queue (List.length p0.Queue : Int) 0 p0.Client p0.User p0.Online p0.Conn p0.Expiry p0.Until p0.Dropped p0.Queue p0.Out.Limit p0.Out.Items p0.Out.Pool.Used p0.Out.Pool.Last p0.In.IDs p0.Will.Set p0.Will.Delay p0.Will.Message.Topic p0.Will.Message.Payload p0.Will.Message.Level p0.Will.Message.Retain p0.Will.Message.Priority p0.Will.Message.Expires p0.Will.Message.From p0.Will.Message.Seq p0.Will.Message.Props ((aB.mk [] [] false 0 0 0 0 [] [] (aI.mk 0 [] (aN.mk [] 0)) (bE.mk []) (aT.mk false 0 (aA.mk [] [] 0 false 0 0 [] 0 [])))) [] r0
theorem w7 (p0 : List aF) (p1 : Int) (p2 : List aF) : Le (Option.map bJ (qU p0 p1 p2)) (bA SE 68 [.row 2000000000, .d (.int .i64 p1), .row 2000000001] [] [⟨aF.ks, 60, 32, (List.map aF.enc p0)⟩, ⟨aF.ks, 60, 32, (List.map aF.enc p2)⟩]) := al9 (f := 68) (enc := aF.enc) rfl rfl p0 p1 p2
def aqC (C : aP) (Λ2 J : Lam) (a0 : Int) (a1 : Bool) (a2 a3 a4 : List D) : Res := lab SE C Λ2 J 26 0 [1, 1, 1, 1, 0] (aW [(2, .ptr 1000000000 0), (3, .ptr 1000000001 0), (4, .ptr 1000000002 0), (8, .d (.int .i64 a0)), (9, .d (.bool a1))] [⟨38, (List.map AV.d a2)⟩, ⟨60, (List.map AV.d a3)⟩, ⟨38, (List.map AV.d a4)⟩] [] [] [])
section
variable (Γ : Fun) (γ66 : Gm (Int)) (γ67 : Gm (Int × Bool)) (γ50 : Gm (aB)) (γ68 : Gm ((List aF))) (Λ2 J : Lam)
def C26 : aP := aY (aY (aY (aY (aQ Γ) 66 stringslite_IndexByte_out γ66) 67 aX γ67) 50 cB γ50) 68 bJ γ68
theorem T26 (p0 : aB) (p1 : aF) : bF SE (C26 Γ γ66 γ67 γ50 γ68) Λ2 J 26 [aB.av p0, aF.av p1] [] [] =
 γ66 [aF.av p1] [] [] fun r0 =>
 cond (r0 != 0) (
 (some (.ret [.agg [.d (.str []), .d (.str []), .d (.bool false), .d (.int .i64 0), .d (.int .i64 0), .d (.int .i64 0), .d (.int .i64 0), .row 0, .row 1, .d (.int .i64 0), .row 2, .row 3, .d (.int .i64 0), .row 4, .d (.bool false), .d (.int .i64 0), .d (.str []), .d (.str []), .d (.int .i64 0), .d (.bool false), .d (.int .i64 0), .d (.int .i64 0), .d (.str []), .d (.int .i64 0), .row 5], .d (.bool false), .d (.int .i64 r0)] [] [⟨aF.ks, 60, 32, (List.map aF.enc [])⟩, ⟨aA.ks, 34, 112, (List.map aA.enc [])⟩, ⟨aD.ks, 122, 128, (List.map aD.enc [])⟩, ⟨[.int .i64], 3, 8, (List.map eI [])⟩, ⟨[.int .i64], 3, 8, (List.map eI [])⟩, ⟨aG.ks, 130, 32, (List.map aG.enc [])⟩]))) (
 γ67 [.d (.sl aF.ks (List.map aF.enc p0.Subs)), .d (.str p1.Filter)] [] [] fun r1 =>
 cond (!r1.2) (
 cond (decide ((lM aF.enc p0.Subs : Int) ≥ 32)) (
  (some (.ret [.agg [.d (.str []), .d (.str []), .d (.bool false), .d (.int .i64 0), .d (.int .i64 0), .d (.int .i64 0), .d (.int .i64 0), .row 0, .row 1, .d (.int .i64 0), .row 2, .row 3, .d (.int .i64 0), .row 4, .d (.bool false), .d (.int .i64 0), .d (.str []), .d (.str []), .d (.int .i64 0), .d (.bool false), .d (.int .i64 0), .d (.int .i64 0), .d (.str []), .d (.int .i64 0), .row 5], .d (.bool false), .d (.int .i64 6)] [] [⟨aF.ks, 60, 32, (List.map aF.enc [])⟩, ⟨aA.ks, 34, 112, (List.map aA.enc [])⟩, ⟨aD.ks, 122, 128, (List.map aD.enc [])⟩, ⟨[.int .i64], 3, 8, (List.map eI [])⟩, ⟨[.int .i64], 3, 8, (List.map eI [])⟩, ⟨aG.ks, 130, 32, (List.map aG.enc [])⟩]))) (
 aqC (C26 Γ γ66 γ67 γ50 γ68) Λ2 J r1.1 r1.2 (aB.enc p0) (aF.enc p1) [D.str [], D.str [], D.bool false, D.int .i64 0, D.int .i64 0, D.int .i64 0, D.int .i64 0, D.sl aF.ks (List.map aF.enc []), D.sl aA.ks (List.map aA.enc []), D.int .i64 0, D.sl aD.ks (List.map aD.enc []), D.sl [.int .i64] (List.map eI []), D.int .i64 0, D.sl [.int .i64] (List.map eI []), D.bool false, D.int .i64 0, D.str [], D.str [], D.int .i64 0, D.bool false, D.int .i64 0, D.int .i64 0, D.str [], D.int .i64 0, D.sl aG.ks (List.map aG.enc [])])) (
 aqC (C26 Γ γ66 γ67 γ50 γ68) Λ2 J r1.1 r1.2 (aB.enc p0) (aF.enc p1) [D.str [], D.str [], D.bool false, D.int .i64 0, D.int .i64 0, D.int .i64 0, D.int .i64 0, D.sl aF.ks (List.map aF.enc []), D.sl aA.ks (List.map aA.enc []), D.int .i64 0, D.sl aD.ks (List.map aD.enc []), D.sl [.int .i64] (List.map eI []), D.int .i64 0, D.sl [.int .i64] (List.map eI []), D.bool false, D.int .i64 0, D.str [], D.str [], D.int .i64 0, D.bool false, D.int .i64 0, D.int .i64 0, D.str [], D.int .i64 0, D.sl aG.ks (List.map aG.enc [])])) := by kernel_rfl
theorem aBD (x8 : Int) (x9 : Bool) (b0 : aB) (b1 : aF) (b2 : aB) : bT SE (C26 Γ γ66 γ67 γ50 γ68) Λ2 J 26 0 [1, 1, 1, 1, 0] (aW [(2, .ptr 1000000000 0), (3, .ptr 1000000001 0), (4, .ptr 1000000002 0), (8, .d (.int .i64 x8)), (9, .d (.bool x9))] [⟨38, (List.map AV.d (aB.enc b0))⟩, ⟨60, (List.map AV.d (aF.enc b1))⟩, ⟨38, (List.map AV.d (aB.enc b2))⟩] [] [] []) =
 γ50 [aB.av b0] [] [] fun r2 =>
 cond x9 (
 cond (iB x8 (lM aF.enc r2.Subs : Int)) (
  (some (.ret [.agg [.d (.str r2.Client), .d (.str r2.User), .d (.bool r2.Online), .d (.int .i64 r2.Conn), .d (.int .i64 r2.Expiry), .d (.int .i64 r2.Until), .d (.int .i64 r2.Dropped), .row 0, .row 1, .d (.int .i64 r2.Out.Limit), .row 2, .row 3, .d (.int .i64 r2.Out.Pool.Last), .row 4, .d (.bool r2.Will.Set), .d (.int .i64 r2.Will.Delay), .d (.str r2.Will.Message.Topic), .d (.str r2.Will.Message.Payload), .d (.int .i64 r2.Will.Message.Level), .d (.bool r2.Will.Message.Retain), .d (.int .i64 r2.Will.Message.Priority), .d (.int .i64 r2.Will.Message.Expires), .d (.str r2.Will.Message.From), .d (.int .i64 r2.Will.Message.Seq), .row 5], .d (.bool x9), .d (.int .i64 0)] [] [⟨aF.ks, 60, 32, (mY (List.map aF.enc r2.Subs) (Int.toNat x8) 0 (aF.enc b1))⟩, ⟨aA.ks, 34, 112, (List.map aA.enc r2.Queue)⟩, ⟨aD.ks, 122, 128, (List.map aD.enc r2.Out.Items)⟩, ⟨[.int .i64], 3, 8, (List.map eI r2.Out.Pool.Used)⟩, ⟨[.int .i64], 3, 8, (List.map eI r2.In.IDs)⟩, ⟨aG.ks, 130, 32, (List.map aG.enc r2.Will.Message.Props)⟩]))) none) (
 γ68 [.row 2000000000, .d (.int .i64 x8), .row 2000000001] [] [⟨aF.ks, 60, 32, (List.map aF.enc r2.Subs)⟩, ⟨aF.ks, 60, 32, (List.map aF.enc [b1])⟩] fun r3 =>
 (some (.ret [.agg [.d (.str r2.Client), .d (.str r2.User), .d (.bool r2.Online), .d (.int .i64 r2.Conn), .d (.int .i64 r2.Expiry), .d (.int .i64 r2.Until), .d (.int .i64 r2.Dropped), .row 0, .row 1, .d (.int .i64 r2.Out.Limit), .row 2, .row 3, .d (.int .i64 r2.Out.Pool.Last), .row 4, .d (.bool r2.Will.Set), .d (.int .i64 r2.Will.Delay), .d (.str r2.Will.Message.Topic), .d (.str r2.Will.Message.Payload), .d (.int .i64 r2.Will.Message.Level), .d (.bool r2.Will.Message.Retain), .d (.int .i64 r2.Will.Message.Priority), .d (.int .i64 r2.Will.Message.Expires), .d (.str r2.Will.Message.From), .d (.int .i64 r2.Will.Message.Seq), .row 5], .d (.bool x9), .d (.int .i64 0)] [] [⟨aF.ks, 60, 32, (List.map aF.enc r3)⟩, ⟨aA.ks, 34, 112, (List.map aA.enc r2.Queue)⟩, ⟨aD.ks, 122, 128, (List.map aD.enc r2.Out.Items)⟩, ⟨[.int .i64], 3, 8, (List.map eI r2.Out.Pool.Used)⟩, ⟨[.int .i64], 3, 8, (List.map eI r2.In.IDs)⟩, ⟨aG.ks, 130, 32, (List.map aG.enc r2.Will.Message.Props)⟩]))) := by kernel_rfl
end
abbrev X26 : aP := C26 gG (cT 66 stringslite_IndexByte_out) (cT 67 aX) (cT 50 cB) (cT 68 bJ)
theorem ay0 : X26 = aQ gG := by unfold X26 C26; repeat rw [bB fun _ h => h]
abbrev aCr := aqC X26 (bP SE gG (SE.hl 26) (SE.hr 26)) (J0 SE X26)
theorem xM (x8 : Int) (x9 : Bool) (b0 : aB) (b1 : aF) (b2 : aB) : Le (Option.map dS (pJ x8 x9 b0 b1 b2)) (aCr x8 x9 (aB.enc b0) (aF.enc b1) (aB.enc b2)) := by
 refine Le.trans ?_ (le_of_eq ((aZ ay0).trans (aBD ..)).symm)
 unfold pJ
 refine lQ eX gB (jI _) fun r2 _ => ?_
 refine lC ?_ ?_
 ·refine lG (by simp only [EN]) ?_
  exact aJ (by first | rfl | simp only [EN, dS] <;> rfl)
 ·refine lQ eX eD (w7 _ _ _) fun r3 _ => ?_
  exact aJ rfl
theorem aak (p0 : aB) (p1 : aF) : Le (Option.map dS (s9 p0 p1)) (bA SE 26 [aB.av p0, aF.av p1] [] []) := by
 refine aV ay0 rfl ?_
 refine Le.trans ?_ (le_of_eq (T26 ..).symm)
 unfold s9
 refine lQ eX stringslite_IndexByte_inj (aaH _) fun r0 _ => ?_
 refine lC ?_ ?_
 ·exact aJ rfl
 ·refine lQ eX cG (ad5 _ _) fun r1 _ => ?_
  refine lC ?_ ?_
  ·refine lD (by simp only [EN]) ?_ ?_
   ·exact aJ rfl
   ·(try simp only [EN]); exact xM r1.1 r1.2 p0 p1 ((aB.mk [] [] false 0 0 0 0 [] [] (aI.mk 0 [] (aN.mk [] 0)) (bE.mk []) (aT.mk false 0 (aA.mk [] [] 0 false 0 0 [] 0 []))))
  ·(try simp only [EN]); exact xM r1.1 r1.2 p0 p1 ((aB.mk [] [] false 0 0 0 0 [] [] (aI.mk 0 [] (aN.mk [] 0)) (bE.mk []) (aT.mk false 0 (aA.mk [] [] 0 false 0 0 [] 0 []))))
section
variable (Γ : Fun)  (Λ2 J : Lam)
def C51 : aP := aQ Γ
theorem T51 (p0 : aB) (p1 : Int) : bF SE (C51 Γ) Λ2 J 51 [aB.av p0, .d (.int .i64 p1)] [] [] =
 (some (.ret [aB.av (aB.mk p0.Client p0.User p0.Online p0.Conn p0.Expiry p0.Until (if 1099511627776 < (w6 (p0.Dropped + p1)) then 1099511627776 else (w6 (p0.Dropped + p1))) p0.Subs p0.Queue p0.Out p0.In p0.Will)] [] [])) := by kernel_rfl
end
abbrev X51 : aP := C51 gG
theorem aFv : X51 = aQ gG := rfl
theorem sI (p0 : aB) (p1 : Int) : Le (Option.map bR (iZ p0 p1)) (bA SE 51 [aB.av p0, .d (.int .i64 p1)] [] []) := by
 refine aV aFv rfl ?_
 refine Le.trans ?_ (le_of_eq (T51 ..).symm)
 unfold iZ
 exact aJ rfl
section
variable (Γ : Fun)  (Λ2 J : Lam)
def axX : aP := aQ Γ
theorem aDR (p0 : aA) : bF SE (axX Γ) Λ2 J 106 [aA.av p0] [] [] =
 cond (decide (lM aG.enc p0.Props * 32 ≤ 140737488355328)) (
 (some (.ret [.agg [.d (.str p0.Topic), .d (.str p0.Payload), .d (.int .i64 p0.Level), .d (.bool p0.Retain), .d (.int .i64 p0.Priority), .d (.int .i64 p0.Expires), .d (.str p0.From), .d (.int .i64 p0.Seq), .row 0]] [] [⟨aG.ks, 130, 32, (List.map aG.enc p0.Props)⟩]))) none := by kernel_rfl
end
abbrev aFV : aP := axX gG
theorem aB3 : aFV = aQ gG := rfl
theorem tE (p0 : aA) : Le (Option.map bW (nY p0)) (bA SE 106 [aA.av p0] [] []) := by
 refine aV aB3 rfl ?_
 refine Le.trans ?_ (le_of_eq (aDR ..).symm)
 unfold nY
 refine lG (by simp only [EN]) ?_
 exact aJ rfl
def ao5 (C : aP) (Λ2 J : Lam) (a0 : List (List D)) (a1 a2 : Int) (a3 : List (List D)) : Res := lab SE C Λ2 J 105 0 [1, 1, 0, 1, 0] (aW [(5, .row 3005), (13, .d (.sl aA.ks a0)), (14, .d (.int .i64 a1)), (15, .d (.int .i64 a2))] [] [] [] [(3005, ⟨aA.ks, 34, 112, a3⟩)])
section
variable (Γ : Fun) (γ106 : Gm (aA)) (Λ2 J : Lam)
def ala : aP := aY (aQ Γ) 106 bW γ106
theorem aEv (p0 : List aA) (p1 : Int) : bF SE (ala Γ γ106) Λ2 J 105 [.d (.sl aA.ks (List.map aA.enc p0)), .d (.int .i64 p1)] [] [] =
 cond (decide (0 ≤ 0) && decide (0 ≤ (w6 ((lM aA.enc p0 : Int) + p1))) && decide ((w6 ((lM aA.enc p0 : Int) + p1)) * 112 ≤ 281474976710656)) (
 ao5 (ala Γ γ106) Λ2 J (List.map aA.enc p0) (lM aA.enc p0 : Int) 0 (List.map aA.enc [])) none := by kernel_rfl
theorem ayn (x13 : List aA) (x14 x15 : Int) (w3005 : List aA) : bT SE (ala Γ γ106) Λ2 J 105 0 [1, 1, 0, 1, 0] (aW [(5, .row 3005), (13, .d (.sl aA.ks (List.map aA.enc x13))), (14, .d (.int .i64 x14)), (15, .d (.int .i64 x15))] [] [] [] [(3005, ⟨aA.ks, 34, 112, (List.map aA.enc w3005)⟩)]) =
 cond (decide (x15 < x14)) (
 cond (iB x15 (lM aA.enc x13 : Int)) (
  γ106 [.agg [.d (.str (bC (cE aA.enc x13 x15 0))), .d (.str (bC (cE aA.enc x13 x15 1))), .d (.int .i64 (aR (cE aA.enc x13 x15 2))), .d (.bool (bM (cE aA.enc x13 x15 3))), .d (.int .i64 (aR (cE aA.enc x13 x15 4))), .d (.int .i64 (aR (cE aA.enc x13 x15 5))), .d (.str (bC (cE aA.enc x13 x15 6))), .d (.int .i64 (aR (cE aA.enc x13 x15 7))), .d (.sl aG.ks (dSl (cE aA.enc x13 x15 8)))]] [] [] fun r0 =>
  cond (decide ((lM aA.enc w3005 + lM aA.enc [r0]) * 112 ≤ 140737488355328)) (
  ao5 (ala Γ γ106) Λ2 J (List.map aA.enc x13) x14 (w6 (x15 + 1)) (((List.map aA.enc w3005) ++ (List.map aA.enc [r0])))) none) none) (
 (some (.ret [.row 0] [] [⟨aA.ks, 34, 112, (List.map aA.enc w3005)⟩]))) := by kernel_rfl
end
abbrev aqV : aP := ala gG (cT 106 bW)
theorem avt : aqV = aQ gG := by unfold aqV ala; rw [bB fun _ h => h]
abbrev azj := ao5 aqV (bP SE gG (SE.hl 105) (SE.hr 105)) (J0 SE aqV)
theorem aju : ∀ (fu : Nat) (x13 : List aA) (x14 x15 : Int) (w3005 : List aA), Le (Option.map eY (oX fu x13 x14 x15 w3005)) (azj (List.map aA.enc x13) x14 x15 (List.map aA.enc w3005)) := by
 intro fu
 induction fu with
 | zero => intros; exact le_none
 | succ fu ih =>
  intro x13 x14 x15 w3005
  refine Le.trans ?_ (le_of_eq ((aZ avt).trans (ayn ..)).symm)
  unfold oX
  refine lC ?_ ?_
  ·refine lG (by simp only [EN]) ?_
   refine lQ eX dB (by (try simp only [EN]); exact tE (List.getD x13 (Int.toNat x15) default)) fun r0 _ => ?_
   refine lG (by simp only [EN]) ?_
   (try simp only [EN]); exact ih x13 x14 (w6 (x15 + 1)) (w3005 ++ [r0])
  ·exact aJ rfl
theorem amK (p0 : List aA) (p1 : Int) : Le (Option.map eY (aae p0 p1)) (bA SE 105 [.d (.sl aA.ks (List.map aA.enc p0)), .d (.int .i64 p1)] [] []) := by
 refine aV avt rfl ?_
 refine Le.trans ?_ (le_of_eq (aEv ..).symm)
 unfold aae
 refine lG (by simp only [EN]) ?_
 (try simp only [EN]); exact aju fuel p0 (List.length p0 : Int) 0 []
def avz (C : aP) (Λ2 J : Lam) (a0 : List D) (a1 : List (List D)) : Res := lab SE C Λ2 J 52 0 [1, 1, 1, 1, 0] (aW [(5, .ptr 1000000000 0), (11, .row 3011)] [⟨34, (List.map AV.d a0)⟩] [] [] [(3011, ⟨aA.ks, 34, 112, a1⟩)])
section
variable (Γ : Fun) (γ105 : Gm ((List aA))) (γ106 : Gm (aA)) (Λ2 J : Lam)
def C52 : aP := aY (aY (aQ Γ) 105 eY γ105) 106 bW γ106
theorem T52 (p0 : List aA) (p1 : aA) (p2 p3 : Int) : bF SE (C52 Γ γ105 γ106) Λ2 J 52 [.d (.sl aA.ks (List.map aA.enc p0)), aA.av p1, .d (.int .i64 p2), .d (.int .i64 p3)] [] [] =
 γ105 [.d (.sl aA.ks (List.map aA.enc p0)), .d (.int .i64 1)] [] [] fun r0 =>
 cond (decide ((lM aA.enc p0 : Int) < p2)) (
 γ106 [aA.av p1] [] [] fun r1 =>
 cond (decide ((lM aA.enc r0 + lM aA.enc [r1]) * 112 ≤ 140737488355328)) (
  (some (.ret [.row 0, .row 1, .d (.bool false)] [] [⟨aA.ks, 34, 112, ((List.map aA.enc r0) ++ (List.map aA.enc [r1]))⟩, ⟨aA.ks, 34, 112, []⟩]))) none) (
 cond (p3 != 1) (
 γ106 [aA.av p1] [] [] fun r2 =>
 (some (.ret [.row 0, .row 1, .d (.bool (p3 == 3))] [] [⟨aA.ks, 34, 112, (List.map aA.enc r0)⟩, ⟨aA.ks, 34, 112, (List.map aA.enc [r2])⟩]))) (
 cond (decide (p2 < 1)) (
 γ106 [aA.av p1] [] [] fun r3 =>
 (some (.ret [.row 0, .row 1, .d (.bool (p3 == 3))] [] [⟨aA.ks, 34, 112, (List.map aA.enc r0)⟩, ⟨aA.ks, 34, 112, (List.map aA.enc [r3])⟩]))) (
 avz (C52 Γ γ105 γ106) Λ2 J (aA.enc p1) (List.map aA.enc r0)))) := by kernel_rfl
theorem aC8 (b0 : aA) (w3011 : List aA) : bT SE (C52 Γ γ105 γ106) Λ2 J 52 0 [1, 1, 1, 1, 0] (aW [(5, .ptr 1000000000 0), (11, .row 3011)] [⟨34, (List.map AV.d (aA.enc b0))⟩] [] [] [(3011, ⟨aA.ks, 34, 112, (List.map aA.enc w3011)⟩)]) =
 cond (decide (0 ≤ 0) && decide (0 < (lM aA.enc w3011 : Int))) (
 cond (decide (0 ≤ 1) && decide (1 ≤ ((lM aA.enc w3011) : Int))) (
  γ106 [aA.av b0] [] [] fun r4 =>
  cond (iB (w6 ((List.length (List.take (lM aA.enc w3011) (List.take ((lM aA.enc w3011) - (Int.toNat 1)) (List.drop (Int.toNat 1) (List.map aA.enc w3011))) ++ List.drop (min (List.length (List.take ((lM aA.enc w3011) - (Int.toNat 1)) (List.drop (Int.toNat 1) (List.map aA.enc w3011)))) (lM aA.enc w3011)) (List.map aA.enc w3011)) : Int) - 1)) (List.length (List.take (lM aA.enc w3011) (List.take ((lM aA.enc w3011) - (Int.toNat 1)) (List.drop (Int.toNat 1) (List.map aA.enc w3011))) ++ List.drop (min (List.length (List.take ((lM aA.enc w3011) - (Int.toNat 1)) (List.drop (Int.toNat 1) (List.map aA.enc w3011)))) (lM aA.enc w3011)) (List.map aA.enc w3011)) : Int)) (
  (some (.ret [.row 0, .row 1, .d (.bool false)] [] [⟨aA.ks, 34, 112, (mY (List.take (lM aA.enc w3011) (List.take ((lM aA.enc w3011) - (Int.toNat 1)) (List.drop (Int.toNat 1) (List.map aA.enc w3011))) ++ List.drop (min (List.length (List.take ((lM aA.enc w3011) - (Int.toNat 1)) (List.drop (Int.toNat 1) (List.map aA.enc w3011)))) (lM aA.enc w3011)) (List.map aA.enc w3011)) (Int.toNat (w6 ((List.length (List.take (lM aA.enc w3011) (List.take ((lM aA.enc w3011) - (Int.toNat 1)) (List.drop (Int.toNat 1) (List.map aA.enc w3011))) ++ List.drop (min (List.length (List.take ((lM aA.enc w3011) - (Int.toNat 1)) (List.drop (Int.toNat 1) (List.map aA.enc w3011)))) (lM aA.enc w3011)) (List.map aA.enc w3011)) : Int) - 1))) 0 (aA.enc r4))⟩, ⟨aA.ks, 34, 112, [[D.str (bC (cE aA.enc w3011 0 0)), D.str (bC (cE aA.enc w3011 0 1)), D.int .i64 (aR (cE aA.enc w3011 0 2)), D.bool (bM (cE aA.enc w3011 0 3)), D.int .i64 (aR (cE aA.enc w3011 0 4)), D.int .i64 (aR (cE aA.enc w3011 0 5)), D.str (bC (cE aA.enc w3011 0 6)), D.int .i64 (aR (cE aA.enc w3011 0 7)), D.sl aG.ks (dSl (cE aA.enc w3011 0 8))]]⟩]))) none) none) none := by kernel_rfl
end
abbrev X52 : aP := C52 gG (cT 105 eY) (cT 106 bW)
theorem azO : X52 = aQ gG := by unfold X52 C52; repeat rw [bB fun _ h => h]
abbrev aAT := avz X52 (bP SE gG (SE.hl 52) (SE.hr 52)) (J0 SE X52)
theorem akH (b0 : aA) (w3011 : List aA) : Le (Option.map kM (zV b0 w3011)) (aAT (aA.enc b0) (List.map aA.enc w3011)) := by
 refine Le.trans ?_ (le_of_eq ((aZ azO).trans (aC8 ..)).symm)
 unfold zV
 refine lG (by simp only [EN]) ?_
 refine lG (by simp only [EN]) ?_
 refine lQ eX dB (tE _) fun r4 _ => ?_
 refine lG (by simp only [EN]) ?_
 exact aJ (by first | rfl | simp only [EN, kM] <;> rfl)
theorem ao0 (p0 : List aA) (p1 : aA) (p2 p3 : Int) : Le (Option.map kM (abj p0 p1 p2 p3)) (bA SE 52 [.d (.sl aA.ks (List.map aA.enc p0)), aA.av p1, .d (.int .i64 p2), .d (.int .i64 p3)] [] []) := by
 refine aV azO rfl ?_
 refine Le.trans ?_ (le_of_eq (T52 ..).symm)
 unfold abj
 refine lQ eX afp (amK _ _) fun r0 _ => ?_
 refine lD (by simp only [EN]) ?_ ?_
 ·refine lQ eX dB (tE _) fun r1 _ => ?_
  refine lG (by simp only [EN]) ?_
  exact aJ (by first | rfl | simp only [EN, kM] <;> rfl)
 ·refine lC ?_ ?_
  ·refine lQ eX dB (tE _) fun r2 _ => ?_
   exact aJ rfl
  ·refine lC ?_ ?_
   ·refine lQ eX dB (tE _) fun r3 _ => ?_
    exact aJ rfl
   ·exact akH p1 r0
def aqO (C : aP) (Λ2 J : Lam) (a0 a1 : Int) (a2 a3 a4 : List D) (a5 a6 : Str) (a7 : Bool) (a8 a9 a10 a11 a12 a13 : Int) (a14 : Bool) (a15 : Int) (a16 a17 : Str) (a18 : Int) (a19 : Bool) (a20 a21 : Int) (a22 : Str) (a23 : Int) (a24 a25 a26 a27 a28 a29 : List (List D)) : Res := lab SE C Λ2 J 15 0 [1, 1, 1, 0] (aW [(2, .d (.int .i64 a0)), (3, .d (.int .i64 a1)), (4, .ptr 1000000000 0), (5, .ptr 1000000001 0), (8, .ptr 1000000002 0), (10, .ptr 1000000003 0)] [⟨38, (List.map AV.d a2)⟩, ⟨34, (List.map AV.d a3)⟩, ⟨38, (List.map AV.d a4)⟩, ⟨38, [.d (.str a5), .d (.str a6), .d (.bool a7), .d (.int .i64 a8), .d (.int .i64 a9), .d (.int .i64 a10), .d (.int .i64 a11), .row 50307, .row 50308, .d (.int .i64 a12), .row 50310, .row 50311, .d (.int .i64 a13), .row 50313, .d (.bool a14), .d (.int .i64 a15), .d (.str a16), .d (.str a17), .d (.int .i64 a18), .d (.bool a19), .d (.int .i64 a20), .d (.int .i64 a21), .d (.str a22), .d (.int .i64 a23), .row 50324]⟩] [] [] [(50307, ⟨aF.ks, 60, 32, a24⟩), (50308, ⟨aA.ks, 34, 112, a25⟩), (50310, ⟨aD.ks, 122, 128, a26⟩), (50311, ⟨[.int .i64], 3, 8, a27⟩), (50313, ⟨[.int .i64], 3, 8, a28⟩), (50324, ⟨aG.ks, 130, 32, a29⟩)])
section
variable (Γ : Fun) (γ50 γ51 : Gm (aB)) (γ52 : Gm ((List aA) × (List aA) × Bool)) (Λ2 J : Lam)
def C15 : aP := aY (aY (aY (aQ Γ) 50 cB γ50) 51 bR γ51) 52 kM γ52
theorem T15 (p0 : aB) (p1 : aA) (p2 p3 : Int) : bF SE (C15 Γ γ50 γ51 γ52) Λ2 J 15 [aB.av p0, aA.av p1, .d (.int .i64 p2), .d (.int .i64 p3)] [] [] =
 γ50 [aB.av p0] [] [] fun r0 =>
 cond (!p0.Online) (
 cond (p1.Level == 0) (
  γ51 [aB.av r0, .d (.int .i64 1)] [] [] fun r1 =>
  (some (.ret [aB.av r1, .d (.bool false)] [] []))) (
 aqO (C15 Γ γ50 γ51 γ52) Λ2 J p2 p3 (aB.enc p0) (aA.enc p1) [D.str [], D.str [], D.bool false, D.int .i64 0, D.int .i64 0, D.int .i64 0, D.int .i64 0, D.sl aF.ks (List.map aF.enc []), D.sl aA.ks (List.map aA.enc []), D.int .i64 0, D.sl aD.ks (List.map aD.enc []), D.sl [.int .i64] (List.map eI []), D.int .i64 0, D.sl [.int .i64] (List.map eI []), D.bool false, D.int .i64 0, D.str [], D.str [], D.int .i64 0, D.bool false, D.int .i64 0, D.int .i64 0, D.str [], D.int .i64 0, D.sl aG.ks (List.map aG.enc [])] r0.Client r0.User r0.Online r0.Conn r0.Expiry r0.Until r0.Dropped r0.Out.Limit r0.Out.Pool.Last r0.Will.Set r0.Will.Delay r0.Will.Message.Topic r0.Will.Message.Payload r0.Will.Message.Level r0.Will.Message.Retain r0.Will.Message.Priority r0.Will.Message.Expires r0.Will.Message.From r0.Will.Message.Seq (List.map aF.enc r0.Subs) (List.map aA.enc r0.Queue) (List.map aD.enc r0.Out.Items) (List.map eI r0.Out.Pool.Used) (List.map eI r0.In.IDs) (List.map aG.enc r0.Will.Message.Props))) (
 aqO (C15 Γ γ50 γ51 γ52) Λ2 J p2 p3 (aB.enc p0) (aA.enc p1) [D.str [], D.str [], D.bool false, D.int .i64 0, D.int .i64 0, D.int .i64 0, D.int .i64 0, D.sl aF.ks (List.map aF.enc []), D.sl aA.ks (List.map aA.enc []), D.int .i64 0, D.sl aD.ks (List.map aD.enc []), D.sl [.int .i64] (List.map eI []), D.int .i64 0, D.sl [.int .i64] (List.map eI []), D.bool false, D.int .i64 0, D.str [], D.str [], D.int .i64 0, D.bool false, D.int .i64 0, D.int .i64 0, D.str [], D.int .i64 0, D.sl aG.ks (List.map aG.enc [])] r0.Client r0.User r0.Online r0.Conn r0.Expiry r0.Until r0.Dropped r0.Out.Limit r0.Out.Pool.Last r0.Will.Set r0.Will.Delay r0.Will.Message.Topic r0.Will.Message.Payload r0.Will.Message.Level r0.Will.Message.Retain r0.Will.Message.Priority r0.Will.Message.Expires r0.Will.Message.From r0.Will.Message.Seq (List.map aF.enc r0.Subs) (List.map aA.enc r0.Queue) (List.map aD.enc r0.Out.Items) (List.map eI r0.Out.Pool.Used) (List.map eI r0.In.IDs) (List.map aG.enc r0.Will.Message.Props)) := by kernel_rfl
theorem aDo (x2 x3 : Int) (b0 : aB) (b1 : aA) (b2 : aB) (b3_0 b3_1 : Str) (b3_2 : Bool) (b3_3 b3_4 b3_5 b3_6 b3_9 b3_12 : Int) (b3_14 : Bool) (b3_15 : Int) (b3_16 b3_17 : Str) (b3_18 : Int) (b3_19 : Bool) (b3_20 b3_21 : Int) (b3_22 : Str) (b3_23 : Int) (w50307 : List aF) (w50308 : List aA) (w50310 : List aD) (w50311 w50313 : List Int) (w50324 : List aG) : bT SE (C15 Γ γ50 γ51 γ52) Λ2 J 15 0 [1, 1, 1, 0] (aW [(2, .d (.int .i64 x2)), (3, .d (.int .i64 x3)), (4, .ptr 1000000000 0), (5, .ptr 1000000001 0), (8, .ptr 1000000002 0), (10, .ptr 1000000003 0)] [⟨38, (List.map AV.d (aB.enc b0))⟩, ⟨34, (List.map AV.d (aA.enc b1))⟩, ⟨38, (List.map AV.d (aB.enc b2))⟩, ⟨38, [.d (.str b3_0), .d (.str b3_1), .d (.bool b3_2), .d (.int .i64 b3_3), .d (.int .i64 b3_4), .d (.int .i64 b3_5), .d (.int .i64 b3_6), .row 50307, .row 50308, .d (.int .i64 b3_9), .row 50310, .row 50311, .d (.int .i64 b3_12), .row 50313, .d (.bool b3_14), .d (.int .i64 b3_15), .d (.str b3_16), .d (.str b3_17), .d (.int .i64 b3_18), .d (.bool b3_19), .d (.int .i64 b3_20), .d (.int .i64 b3_21), .d (.str b3_22), .d (.int .i64 b3_23), .row 50324]⟩] [] [] [(50307, ⟨aF.ks, 60, 32, (List.map aF.enc w50307)⟩), (50308, ⟨aA.ks, 34, 112, (List.map aA.enc w50308)⟩), (50310, ⟨aD.ks, 122, 128, (List.map aD.enc w50310)⟩), (50311, ⟨[.int .i64], 3, 8, (List.map eI w50311)⟩), (50313, ⟨[.int .i64], 3, 8, (List.map eI w50313)⟩), (50324, ⟨aG.ks, 130, 32, (List.map aG.enc w50324)⟩)]) =
 γ52 [.d (.sl aA.ks (List.map aA.enc w50308)), aA.av b1, .d (.int .i64 (if 256 < x2 then 256 else x2)), .d (.int .i64 x3)] [] [] fun r2 =>
 γ51 [aB.av (aB.mk b3_0 b3_1 b3_2 b3_3 b3_4 b3_5 b3_6 w50307 r2.1 (aI.mk b3_9 w50310 (aN.mk w50311 b3_12)) (bE.mk w50313) (aT.mk b3_14 b3_15 (aA.mk b3_16 b3_17 b3_18 b3_19 b3_20 b3_21 b3_22 b3_23 w50324))), .d (.int .i64 (lM aA.enc r2.2.1 : Int))] [] [] fun r3 =>
 cond r2.2.2 (
 (some (.ret [aB.av r3, .d (.bool b0.Online)] [] []))) (
 (some (.ret [aB.av r3, .d (.bool false)] [] []))) := by kernel_rfl
end
abbrev X15 : aP := C15 gG (cT 50 cB) (cT 51 bR) (cT 52 kM)
theorem ayb : X15 = aQ gG := by unfold X15 C15; repeat rw [bB fun _ h => h]
abbrev aBA := aqO X15 (bP SE gG (SE.hl 15) (SE.hr 15)) (J0 SE X15)
theorem aaE (x2 x3 : Int) (b0 : aB) (b1 : aA) (b2 : aB) (b3_0 b3_1 : Str) (b3_2 : Bool) (b3_3 b3_4 b3_5 b3_6 b3_9 b3_12 : Int) (b3_14 : Bool) (b3_15 : Int) (b3_16 b3_17 : Str) (b3_18 : Int) (b3_19 : Bool) (b3_20 b3_21 : Int) (b3_22 : Str) (b3_23 : Int) (w50307 : List aF) (w50308 : List aA) (w50310 : List aD) (w50311 w50313 : List Int) (w50324 : List aG) : Le (Option.map cW (qL x2 x3 b0 b1 b2 b3_0 b3_1 b3_2 b3_3 b3_4 b3_5 b3_6 b3_9 b3_12 b3_14 b3_15 b3_16 b3_17 b3_18 b3_19 b3_20 b3_21 b3_22 b3_23 w50307 w50308 w50310 w50311 w50313 w50324)) (aBA x2 x3 (aB.enc b0) (aA.enc b1) (aB.enc b2) b3_0 b3_1 b3_2 b3_3 b3_4 b3_5 b3_6 b3_9 b3_12 b3_14 b3_15 b3_16 b3_17 b3_18 b3_19 b3_20 b3_21 b3_22 b3_23 (List.map aF.enc w50307) (List.map aA.enc w50308) (List.map aD.enc w50310) (List.map eI w50311) (List.map eI w50313) (List.map aG.enc w50324)) := by
 refine Le.trans ?_ (le_of_eq ((aZ ayb).trans (aDo ..)).symm)
 unfold qL
 refine lQ eX amM (ao0 _ _ _ _) fun r2 _ => ?_
 refine lQ eX dK (by (try simp only [EN]); exact sI ((aB.mk b3_0 b3_1 b3_2 b3_3 b3_4 b3_5 b3_6 w50307 r2.1 (aI.mk b3_9 w50310 (aN.mk w50311 b3_12)) (bE.mk w50313) (aT.mk b3_14 b3_15 (aA.mk b3_16 b3_17 b3_18 b3_19 b3_20 b3_21 b3_22 b3_23 w50324)))) (List.length r2.2.1 : Int)) fun r3 _ => ?_
 refine lC ?_ ?_
 ·exact aJ rfl
 ·exact aJ rfl
theorem uK (p0 : aB) (p1 : aA) (p2 p3 : Int) : Le (Option.map cW (mV p0 p1 p2 p3)) (bA SE 15 [aB.av p0, aA.av p1, .d (.int .i64 p2), .d (.int .i64 p3)] [] []) := by
 refine aV ayb rfl ?_
 refine Le.trans ?_ (le_of_eq (T15 ..).symm)
 unfold mV
 refine lQ eX gB (jI _) fun r0 _ => ?_
 refine lC ?_ ?_
 ·refine lC ?_ ?_
  ·refine lQ eX dK (sI _ _) fun r1 _ => ?_
   exact aJ rfl
  ·(try simp only [EN]); exact aaE p2 p3 p0 p1 ((aB.mk [] [] false 0 0 0 0 [] [] (aI.mk 0 [] (aN.mk [] 0)) (bE.mk []) (aT.mk false 0 (aA.mk [] [] 0 false 0 0 [] 0 [])))) r0.Client r0.User r0.Online r0.Conn r0.Expiry r0.Until r0.Dropped r0.Out.Limit r0.Out.Pool.Last r0.Will.Set r0.Will.Delay r0.Will.Message.Topic r0.Will.Message.Payload r0.Will.Message.Level r0.Will.Message.Retain r0.Will.Message.Priority r0.Will.Message.Expires r0.Will.Message.From r0.Will.Message.Seq r0.Subs r0.Queue r0.Out.Items r0.Out.Pool.Used r0.In.IDs r0.Will.Message.Props
 ·(try simp only [EN]); exact aaE p2 p3 p0 p1 ((aB.mk [] [] false 0 0 0 0 [] [] (aI.mk 0 [] (aN.mk [] 0)) (bE.mk []) (aT.mk false 0 (aA.mk [] [] 0 false 0 0 [] 0 [])))) r0.Client r0.User r0.Online r0.Conn r0.Expiry r0.Until r0.Dropped r0.Out.Limit r0.Out.Pool.Last r0.Will.Set r0.Will.Delay r0.Will.Message.Topic r0.Will.Message.Payload r0.Will.Message.Level r0.Will.Message.Retain r0.Will.Message.Priority r0.Will.Message.Expires r0.Will.Message.From r0.Will.Message.Seq r0.Subs r0.Queue r0.Out.Items r0.Out.Pool.Used r0.In.IDs r0.Will.Message.Props
section
variable (Γ : Fun)  (Λ2 J : Lam)
def awT : aP := aQ Γ
theorem aFy (p0 : aA) (p1 : Int) : bF SE (awT Γ) Λ2 J 113 [aA.av p0, .d (.int .i64 p1)] [] [] =
 cond (p0.Expires != 0) (
 (rB (decide (p1 ≥ p0.Expires)))) (
 (rB false)) := by kernel_rfl
end
abbrev aF7 : aP := awT gG
theorem aBZ : aF7 = aQ gG := rfl
theorem ah5 (p0 : aA) (p1 : Int) : Le (Option.map stringslite_HasPrefix_out (sQ p0 p1)) (bA SE 113 [aA.av p0, .d (.int .i64 p1)] [] []) := by
 refine aV aBZ rfl ?_
 refine Le.trans ?_ (le_of_eq (aFy ..).symm)
 unfold sQ
 refine lC ?_ ?_
 ·exact aJ rfl
 ·exact aJ rfl
section
variable (Γ : Fun)  (Λ2 J : Lam)
def ayU : aP := aQ Γ
theorem aDY (p0 : aI) : bF SE (ayU Γ) Λ2 J 156 [aI.av p0] [] [] =
 (rI (if 0 > (w6 (p0.Limit - (lM aD.enc p0.Items : Int))) then 0 else (w6 (p0.Limit - (lM aD.enc p0.Items : Int))))) := by kernel_rfl
end
abbrev aFw : aP := ayU gG
theorem aBv : aFw = aQ gG := rfl
theorem ajl (p0 : aI) : Le (Option.map stringslite_IndexByte_out (uW p0)) (bA SE 156 [aI.av p0] [] []) := by
 refine aV aBv rfl ?_
 refine Le.trans ?_ (le_of_eq (aDY ..).symm)
 unfold uW
 exact aJ (by first | rfl | simp only [EN, stringslite_IndexByte_out] <;> rfl)
def aod (C : aP) (Λ2 J : Lam) (a0 : Str) (a1 : Nat) : Res := lab SE C Λ2 J 169 0 [1, 1, 0, 1, 0] (aW [(9, .it 4000)] [] [] [(4000, (a0, a1))] [])
section
variable (Γ : Fun) (γ161 : Gm (Bool)) (Λ2 J : Lam)
def alE : aP := aY (aQ Γ) 161 stringslite_HasPrefix_out γ161
theorem aFl (p0 : Str) : bF SE (alE Γ γ161) Λ2 J 169 [.d (.str p0)] [] [] =
 γ161 [.d (.str p0)] [] [] fun r0 =>
 cond (!r0) (
 (rB false)) (
 aod (alE Γ γ161) Λ2 J p0 0) := by kernel_rfl
theorem awX (s4000 : Str) (i4000 : Nat) : bT SE (alE Γ γ161) Λ2 J 169 0 [1, 1, 0, 1, 0] (aW [(9, .it 4000)] [] [] [(4000, (s4000, i4000))] []) =
 cond (decide (i4000 < List.length s4000)) (
 cond (((dec s4000 i4000).1 : Int) == 43) (
  (rB false)) (
 cond (((dec s4000 i4000).1 : Int) == 35) (
  (rB false)) (
 aod (alE Γ γ161) Λ2 J s4000 (i4000 + (dec s4000 i4000).2)))) (
 (rB true)) := by kernel_rfl
end
abbrev arP : aP := alE gG (cT 161 stringslite_HasPrefix_out)
theorem au4 : arP = aQ gG := by unfold arP alE; rw [bB fun _ h => h]
abbrev axE := aod arP (bP SE gG (SE.hl 169) (SE.hr 169)) (J0 SE arP)
theorem aiS : ∀ (fu : Nat) (s4000 : Str) (i4000 : Nat), Le (Option.map stringslite_HasPrefix_out (lA fu s4000 i4000)) (axE s4000 i4000) := by
 intro fu
 induction fu with
 | zero => intros; exact le_none
 | succ fu ih =>
  intro s4000 i4000
  refine Le.trans ?_ (le_of_eq ((aZ au4).trans (awX ..)).symm)
  unfold lA
  refine lC ?_ ?_
  ·refine lC ?_ ?_
   ·exact aJ rfl
   ·refine lC ?_ ?_
    ·exact aJ rfl
    ·exact ih s4000 (i4000 + (dec s4000 i4000).2)
  ·exact aJ rfl
theorem alg (p0 : Str) : Le (Option.map stringslite_HasPrefix_out (yI p0)) (bA SE 169 [.d (.str p0)] [] []) := by
 refine aV au4 rfl ?_
 refine Le.trans ?_ (le_of_eq (aFl ..).symm)
 unfold yI
 refine lQ eX stringslite_HasPrefix_inj (aeR _) fun r0 _ => ?_
 refine lC ?_ ?_
 ·exact aJ rfl
 ·exact aiS fuel p0 0
section
variable (Γ : Fun)  (Λ2 J : Lam)
def ayp : aP := aQ Γ
theorem aFU (p0 p1 : Int) : bF SE (ayp Γ) Λ2 J 170 [.d (.int .i64 p0), .d (.int .i64 p1)] [] [] =
 cond (decide (p0 ≥ 0)) (
 (rB (decide (p0 ≤ p1)))) (
 (rB false)) := by kernel_rfl
end
abbrev aGa : aP := ayp gG
theorem aBt : aGa = aQ gG := rfl
theorem uS (p0 p1 : Int) : Le (Option.map stringslite_HasPrefix_out (pV p0 p1)) (bA SE 170 [.d (.int .i64 p0), .d (.int .i64 p1)] [] []) := by
 refine aV aBt rfl ?_
 refine Le.trans ?_ (le_of_eq (aFU ..).symm)
 unfold pV
 refine lC ?_ ?_
 ·exact aJ rfl
 ·exact aJ rfl
def aaA (C : aP) (Λ2 J : Lam) (a0 : Str) (a1 : Int) : Res := lab SE C Λ2 J 184 0 [1, 1, 0, 1, 0] (aW [(0, .d (.str a0)), (3, .d (.int .i64 a1))] [] [] [] [])
def asB (C : aP) (Λ2 J : Lam) (a0 : Str) : Res := lab SE C Λ2 J 184 0 [1, 1, 0, 0] (aW [(0, .d (.str a0))] [] [] [] [])
section
variable (Γ : Fun)  (Λ2 J : Lam)
def aa0 : aP := aQ Γ
theorem aGm (p0 : Str) : bF SE (aa0 Γ) Λ2 J 184 [.d (.str p0)] [] [] =
 cond (decide ((List.length p0 : Int) < 1)) (
 (rB false)) (
 cond (decide ((List.length p0 : Int) > 16)) (
 (rB false)) (
 asB (aa0 Γ) Λ2 J p0)) := by kernel_rfl
theorem azp (x0 : Str) (x3 : Int) : bT SE (aa0 Γ) Λ2 J 184 0 [1, 1, 0, 1, 0] (aW [(0, .d (.str x0)), (3, .d (.int .i64 x3))] [] [] [] []) =
 cond (decide (x3 < (List.length x0 : Int))) (
 cond (iB x3 (List.length x0 : Int)) (
  cond (decide ((UInt8.toNat (List.getD x0 (Int.toNat x3) 0) : Int) < 97)) (
  cond (decide ((UInt8.toNat (List.getD x0 (Int.toNat x3) 0) : Int) < 48)) (
   cond ((UInt8.toNat (List.getD x0 (Int.toNat x3) 0) : Int) != 45) (
   (rB false)) (
   aaA (aa0 Γ) Λ2 J x0 (w6 (x3 + 1)))) (
  cond (decide ((UInt8.toNat (List.getD x0 (Int.toNat x3) 0) : Int) > 57)) (
   cond ((UInt8.toNat (List.getD x0 (Int.toNat x3) 0) : Int) != 45) (
   (rB false)) (
   aaA (aa0 Γ) Λ2 J x0 (w6 (x3 + 1)))) (
  aaA (aa0 Γ) Λ2 J x0 (w6 (x3 + 1))))) (
  cond (decide ((UInt8.toNat (List.getD x0 (Int.toNat x3) 0) : Int) > 122)) (
  cond (decide ((UInt8.toNat (List.getD x0 (Int.toNat x3) 0) : Int) < 48)) (
   cond ((UInt8.toNat (List.getD x0 (Int.toNat x3) 0) : Int) != 45) (
   (rB false)) (
   aaA (aa0 Γ) Λ2 J x0 (w6 (x3 + 1)))) (
  cond (decide ((UInt8.toNat (List.getD x0 (Int.toNat x3) 0) : Int) > 57)) (
   cond ((UInt8.toNat (List.getD x0 (Int.toNat x3) 0) : Int) != 45) (
   (rB false)) (
   aaA (aa0 Γ) Λ2 J x0 (w6 (x3 + 1)))) (
  aaA (aa0 Γ) Λ2 J x0 (w6 (x3 + 1))))) (
  aaA (aa0 Γ) Λ2 J x0 (w6 (x3 + 1))))) none) (
 (rB true)) := by kernel_rfl
theorem axf (x0 : Str) : bT SE (aa0 Γ) Λ2 J 184 0 [1, 1, 0, 0] (aW [(0, .d (.str x0))] [] [] [] []) =
 aaA (aa0 Γ) Λ2 J x0 0 := by kernel_rfl
end
abbrev aoO : aP := aa0 gG
theorem are : aoO = aQ gG := rfl
abbrev ay9 := aaA aoO (bP SE gG (SE.hl 184) (SE.hr 184)) (J0 SE aoO)
abbrev ayT := asB aoO (bP SE gG (SE.hl 184) (SE.hr 184)) (J0 SE aoO)
theorem aiJ : ∀ (fu : Nat) (x0 : Str) (x3 : Int), Le (Option.map stringslite_HasPrefix_out (e9 fu x0 x3)) (ay9 x0 x3) := by
 intro fu
 induction fu with
 | zero => intros; exact le_none
 | succ fu ih =>
  intro x0 x3
  refine Le.trans ?_ (le_of_eq ((aZ are).trans (azp ..)).symm)
  unfold e9
  refine lC ?_ ?_
  ·refine lF ?_
   refine lC ?_ ?_
   ·refine lC ?_ ?_
    ·refine lC ?_ ?_
     ·exact aJ rfl
     ·exact ih x0 (w6 (x3 + 1))
    ·refine lC ?_ ?_
     ·refine lC ?_ ?_
      ·exact aJ rfl
      ·exact ih x0 (w6 (x3 + 1))
     ·exact ih x0 (w6 (x3 + 1))
   ·refine lC ?_ ?_
    ·refine lC ?_ ?_
     ·refine lC ?_ ?_
      ·exact aJ rfl
      ·exact ih x0 (w6 (x3 + 1))
     ·refine lC ?_ ?_
      ·refine lC ?_ ?_
       ·exact aJ rfl
       ·exact ih x0 (w6 (x3 + 1))
      ·exact ih x0 (w6 (x3 + 1))
    ·exact ih x0 (w6 (x3 + 1))
  ·exact aJ rfl
theorem aiK (x0 : Str) : Le (Option.map stringslite_HasPrefix_out (wU x0)) (ayT x0) := by
 refine Le.trans ?_ (le_of_eq ((aZ are).trans (axf ..)).symm)
 unfold wU
 exact aiJ fuel x0 0
theorem alN (p0 : Str) : Le (Option.map stringslite_HasPrefix_out (yC p0)) (bA SE 184 [.d (.str p0)] [] []) := by
 refine aV are rfl ?_
 refine Le.trans ?_ (le_of_eq (aGm ..).symm)
 unfold yC
 refine lC ?_ ?_
 ·exact aJ rfl
 ·refine lC ?_ ?_
  ·exact aJ rfl
  ·exact aiK p0
def akv (C : aP) (Λ2 J : Lam) (a0 a1 : List (List D)) (a2 a3 : Int) : Res := lab SE C Λ2 J 171 0 [1, 1, 0, 1, 0] (aW [(0, .d (.sl aG.ks a0)), (8, .d (.sl aG.ks a1)), (9, .d (.int .i64 a2)), (10, .d (.int .i64 a3))] [] [] [] [])
section
variable (Γ : Fun) (γ184 : Gm (Bool)) (Λ2 J : Lam)
def ajT : aP := aY (aQ Γ) 184 stringslite_HasPrefix_out γ184
theorem aEZ (p0 : List aG) : bF SE (ajT Γ γ184) Λ2 J 171 [.d (.sl aG.ks (List.map aG.enc p0))] [] [] =
 cond (decide ((lM aG.enc p0 : Int) > 8)) (
 (rI 5)) (
 akv (ajT Γ γ184) Λ2 J (List.map aG.enc p0) (List.map aG.enc p0) (lM aG.enc p0 : Int) 0) := by kernel_rfl
theorem awF (x0 x8 : List aG) (x9 x10 : Int) : bT SE (ajT Γ γ184) Λ2 J 171 0 [1, 1, 0, 1, 0] (aW [(0, .d (.sl aG.ks (List.map aG.enc x0))), (8, .d (.sl aG.ks (List.map aG.enc x8))), (9, .d (.int .i64 x9)), (10, .d (.int .i64 x10))] [] [] [] []) =
 cond (decide (x10 < x9)) (
 cond (iB x10 (lM aG.enc x8 : Int)) (
  γ184 [.d (.str (bC (cE aG.enc x8 x10 0)))] [] [] fun r0 =>
  cond (!r0) (
  (rI 16)) (
  cond (decide ((List.length (bC (cE aG.enc x8 x10 1)) : Int) > 160)) (
  (rI 5)) (
  cond (decide (x10 > 0)) (
  cond (iB (w6 (x10 - 1)) (lM aG.enc x0 : Int)) (
   cond (Op.bytesLess (bC (cE aG.enc x8 x10 0)) (bC (cE aG.enc x0 (w6 (x10 - 1)) 0)) || (bC (cE aG.enc x8 x10 0)) == (bC (cE aG.enc x0 (w6 (x10 - 1)) 0))) (
   (rI 16)) (
   akv (ajT Γ γ184) Λ2 J (List.map aG.enc x0) (List.map aG.enc x8) x9 (w6 (x10 + 1)))) none) (
  akv (ajT Γ γ184) Λ2 J (List.map aG.enc x0) (List.map aG.enc x8) x9 (w6 (x10 + 1)))))) none) (
 (rI 0)) := by kernel_rfl
end
abbrev aq6 : aP := ajT gG (cT 184 stringslite_HasPrefix_out)
theorem avu : aq6 = aQ gG := by unfold aq6 ajT; rw [bB fun _ h => h]
abbrev axr := akv aq6 (bP SE gG (SE.hl 171) (SE.hr 171)) (J0 SE aq6)
theorem agU : ∀ (fu : Nat) (x0 x8 : List aG) (x9 x10 : Int), Le (Option.map stringslite_IndexByte_out (jM fu x0 x8 x9 x10)) (axr (List.map aG.enc x0) (List.map aG.enc x8) x9 x10) := by
 intro fu
 induction fu with
 | zero => intros; exact le_none
 | succ fu ih =>
  intro x0 x8 x9 x10
  refine Le.trans ?_ (le_of_eq ((aZ avu).trans (awF ..)).symm)
  unfold jM
  refine lC ?_ ?_
  ·refine lG (by simp only [EN]) ?_
   refine lQ eX stringslite_HasPrefix_inj (by (try simp only [EN]); exact alN ((List.getD x8 (Int.toNat x10) default).Key)) fun r0 _ => ?_
   refine lC ?_ ?_
   ·exact aJ rfl
   ·refine lD (by simp only [EN]) ?_ ?_
    ·exact aJ rfl
    ·refine lC ?_ ?_
     ·refine lG (by simp only [EN]) ?_
      refine lD (by simp only [EN]) ?_ ?_
      ·exact aJ rfl
      ·exact ih x0 x8 x9 (w6 (x10 + 1))
     ·exact ih x0 x8 x9 (w6 (x10 + 1))
  ·exact aJ rfl
theorem ac7 (p0 : List aG) : Le (Option.map stringslite_IndexByte_out (rS p0)) (bA SE 171 [.d (.sl aG.ks (List.map aG.enc p0))] [] []) := by
 refine aV avu rfl ?_
 refine Le.trans ?_ (le_of_eq (aEZ ..).symm)
 unfold rS
 refine lD (by simp only [EN]) ?_ ?_
 ·exact aJ rfl
 ·(try simp only [EN]); exact agU fuel p0 p0 (List.length p0 : Int) 0
section
variable (Γ : Fun) (γ169 γ170 γ139 : Gm (Bool)) (γ171 : Gm (Int)) (Λ2 J : Lam)
def auh : aP := aY (aY (aY (aY (aQ Γ) 169 stringslite_HasPrefix_out γ169) 170 stringslite_HasPrefix_out γ170) 139 stringslite_HasPrefix_out γ139) 171 stringslite_IndexByte_out γ171
theorem aEy (p0 : aA) : bF SE (auh Γ γ169 γ170 γ139 γ171) Λ2 J 141 [aA.av p0] [] [] =
 γ169 [.d (.str p0.Topic)] [] [] fun r0 =>
 cond (!r0) (
 (rI 12)) (
 cond (decide ((List.length p0.Payload : Int) > 256)) (
 (rI 5)) (
 γ170 [.d (.int .i64 p0.Level), .d (.int .i64 2)] [] [] fun r1 =>
 cond (!r1) (
 (rI 14)) (
 γ170 [.d (.int .i64 p0.Priority), .d (.int .i64 9)] [] [] fun r2 =>
 cond (!r2) (
 (rI 1)) (
 γ170 [.d (.int .i64 p0.Expires), .d (.int .i64 1099511627776)] [] [] fun r3 =>
 cond (!r3) (
 (rI 1)) (
 cond (!(p0.From == ([] : Str))) (
 γ139 [.d (.str p0.From)] [] [] fun r4 =>
 cond (!r4) (
  (rI 11)) (
 γ170 [.d (.int .i64 p0.Seq), .d (.int .i64 1099511627776)] [] [] fun r5 =>
 cond (!r5) (
  (rI 1)) (
 γ171 [.d (.sl aG.ks (List.map aG.enc p0.Props))] [] [] fun r6 =>
 (rI r6)))) (
 γ170 [.d (.int .i64 p0.Seq), .d (.int .i64 1099511627776)] [] [] fun r7 =>
 cond (!r7) (
 (rI 1)) (
 γ171 [.d (.sl aG.ks (List.map aG.enc p0.Props))] [] [] fun r8 =>
 (rI r8)))))))) := by kernel_rfl
end
abbrev awH : aP := auh gG (cT 169 stringslite_HasPrefix_out) (cT 170 stringslite_HasPrefix_out) (cT 139 stringslite_HasPrefix_out) (cT 171 stringslite_IndexByte_out)
theorem aDr : awH = aQ gG := by unfold awH auh; repeat rw [bB fun _ h => h]
theorem uJ (p0 : aA) : Le (Option.map stringslite_IndexByte_out (mU p0)) (bA SE 141 [aA.av p0] [] []) := by
 refine aV aDr rfl ?_
 refine Le.trans ?_ (le_of_eq (aEy ..).symm)
 unfold mU
 refine lQ eX stringslite_HasPrefix_inj (alg _) fun r0 _ => ?_
 refine lC ?_ ?_
 ·exact aJ rfl
 ·refine lC ?_ ?_
  ·exact aJ rfl
  ·refine lQ eX stringslite_HasPrefix_inj (uS _ _) fun r1 _ => ?_
   refine lC ?_ ?_
   ·exact aJ rfl
   ·refine lQ eX stringslite_HasPrefix_inj (uS _ _) fun r2 _ => ?_
    refine lC ?_ ?_
    ·exact aJ rfl
    ·refine lQ eX stringslite_HasPrefix_inj (uS _ _) fun r3 _ => ?_
     refine lC ?_ ?_
     ·exact aJ rfl
     ·refine lC ?_ ?_
      ·refine lQ eX stringslite_HasPrefix_inj (yN _) fun r4 _ => ?_
       refine lC ?_ ?_
       ·exact aJ rfl
       ·refine lQ eX stringslite_HasPrefix_inj (uS _ _) fun r5 _ => ?_
        refine lC ?_ ?_
        ·exact aJ rfl
        ·refine lQ eX stringslite_IndexByte_inj (ac7 _) fun r6 _ => ?_
         exact aJ rfl
      ·refine lQ eX stringslite_HasPrefix_inj (uS _ _) fun r7 _ => ?_
       refine lC ?_ ?_
       ·exact aJ rfl
       ·refine lQ eX stringslite_IndexByte_inj (ac7 _) fun r8 _ => ?_
        exact aJ rfl
section
variable (Γ : Fun)  (Λ2 J : Lam)
def ayG : aP := aQ Γ
theorem aEK (p0 : Int) : bF SE (ayG Γ) Λ2 J 177 [.d (.int .i64 p0)] [] [] =
 (rI (w6 ((Int.tmod p0 65535) + 1))) := by kernel_rfl
end
abbrev aEY : aP := ayG gG
theorem aAY : aEY = aQ gG := rfl
theorem amB (p0 : Int) : Le (Option.map stringslite_IndexByte_out (aaf p0)) (bA SE 177 [.d (.int .i64 p0)] [] []) := by
 refine aV aAY rfl ?_
 refine Le.trans ?_ (le_of_eq (aEK ..).symm)
 unfold aaf
 exact aJ rfl
section
variable (Γ : Fun)  (Λ2 J : Lam)
def awy : aP := aQ Γ
theorem aD0 (p0 : Int) : bF SE (awy Γ) Λ2 J 191 [.d (.int .i64 p0)] [] [] =
 (rB (p0 != p0)) := by kernel_rfl
end
abbrev aEe : aP := awy gG
theorem aAX : aEe = aQ gG := rfl
theorem abV (p0 : Int) : Le (Option.map stringslite_HasPrefix_out (tK p0)) (bA SE 191 [.d (.int .i64 p0)] [] []) := by
 refine aV aAX rfl ?_
 refine Le.trans ?_ (le_of_eq (aD0 ..).symm)
 unfold tK
 exact aJ rfl
section
variable (Γ : Fun) (γ191 : Gm (Bool)) (Λ2 J : Lam)
def auy : aP := aY (aQ Γ) 191 stringslite_HasPrefix_out γ191
theorem aFG (p0 p1 : Int) : bF SE (auy Γ γ191) Λ2 J 185 [.d (.int .i64 p0), .d (.int .i64 p1)] [] [] =
 γ191 [.d (.int .i64 p0)] [] [] fun r0 =>
 cond r0 (
 γ191 [.d (.int .i64 p1)] [] [] fun r1 =>
 cond (!r1) (
  (rB true)) (
 (rB (decide (p0 < p1))))) (
 (rB (decide (p0 < p1)))) := by kernel_rfl
end
abbrev aw9 : aP := auy gG (cT 191 stringslite_HasPrefix_out)
theorem aB2 : aw9 = aQ gG := by unfold aw9 auy; rw [bB fun _ h => h]
theorem ajF (p0 p1 : Int) : Le (Option.map stringslite_HasPrefix_out (uX p0 p1)) (bA SE 185 [.d (.int .i64 p0), .d (.int .i64 p1)] [] []) := by
 refine aV aB2 rfl ?_
 refine Le.trans ?_ (le_of_eq (aFG ..).symm)
 unfold uX
 refine lQ eX stringslite_HasPrefix_inj (abV _) fun r0 _ => ?_
 refine lC ?_ ?_
 ·refine lQ eX stringslite_HasPrefix_inj (abV _) fun r1 _ => ?_
  refine lC ?_ ?_
  ·exact aJ rfl
  ·exact aJ rfl
 ·exact aJ rfl
section
variable (Γ : Fun)  (Λ2 J : Lam)
def aAx : aP := aQ Γ
theorem aEF (p0 : Int) : bF SE (aAx Γ) Λ2 J 186 [.d (.int .i64 p0)] [] [] =
 (rB (p0 != p0)) := by kernel_rfl
end
abbrev aGk : aP := aAx gG
theorem aDk : aGk = aQ gG := rfl
theorem zN (p0 : Int) : Le (Option.map stringslite_HasPrefix_out (mN p0)) (bA SE 186 [.d (.int .i64 p0)] [] []) := by
 refine aV aDk rfl ?_
 refine Le.trans ?_ (le_of_eq (aEF ..).symm)
 unfold mN
 exact aJ rfl
def aku (C : aP) (Λ2 J : Lam) (a0 : List (List D)) (a1 a2 a3 a4 : Int) : Res := lab SE C Λ2 J 175 0 [1, 1, 1, 0, 0] (aW [(0, .d (.sl [.int .i64] a0)), (1, .d (.int .i64 a1)), (6, .d (.int .i64 a2)), (7, .d (.int .i64 a3)), (8, .d (.int .i64 a4))] [] [] [] [])
section
variable (Γ : Fun) (γ185 γ186 : Gm (Bool)) (Λ2 J : Lam)
def ajC : aP := aY (aY (aQ Γ) 185 stringslite_HasPrefix_out γ185) 186 stringslite_HasPrefix_out γ186
theorem aEX (p0 : List Int) (p1 : Int) : bF SE (ajC Γ γ185 γ186) Λ2 J 175 [.d (.sl [.int .i64] (List.map eI p0)), .d (.int .i64 p1)] [] [] =
 aku (ajC Γ γ185 γ186) Λ2 J (List.map eI p0) p1 (lM eI p0 : Int) 0 (lM eI p0 : Int) := by kernel_rfl
theorem aza (x0 : List Int) (x1 x6 x7 x8 : Int) : bT SE (ajC Γ γ185 γ186) Λ2 J 175 0 [1, 1, 1, 0, 0] (aW [(0, .d (.sl [.int .i64] (List.map eI x0))), (1, .d (.int .i64 x1)), (6, .d (.int .i64 x6)), (7, .d (.int .i64 x7)), (8, .d (.int .i64 x8))] [] [] [] []) =
 cond (decide (x7 < x8)) (
 cond (iB (w6 (shr .u64 (IntKind.wrap .u64 (w6 (x7 + x8))) 1)) (lM eI x0 : Int)) (
  γ185 [.d (.int .i64 (aR (cE eI x0 (w6 (shr .u64 (IntKind.wrap .u64 (w6 (x7 + x8))) 1)) 0))), .d (.int .i64 x1)] [] [] fun r0 =>
  cond r0 (
  aku (ajC Γ γ185 γ186) Λ2 J (List.map eI x0) x1 x6 (w6 ((w6 (shr .u64 (IntKind.wrap .u64 (w6 (x7 + x8))) 1)) + 1)) x8) (
  aku (ajC Γ γ185 γ186) Λ2 J (List.map eI x0) x1 x6 x7 (w6 (shr .u64 (IntKind.wrap .u64 (w6 (x7 + x8))) 1)))) none) (
 cond (decide (x7 < x6)) (
 cond (iB x7 (lM eI x0 : Int)) (
  cond ((aR (cE eI x0 x7 0)) == x1) (
  (some (.ret [.d (.int .i64 x7), .d (.bool true)] [] []))) (
  cond (iB x7 (lM eI x0 : Int)) (
  γ186 [.d (.int .i64 (aR (cE eI x0 x7 0)))] [] [] fun r1 =>
  cond r1 (
   γ186 [.d (.int .i64 x1)] [] [] fun r2 =>
   (some (.ret [.d (.int .i64 x7), .d (.bool r2)] [] []))) (
  (some (.ret [.d (.int .i64 x7), .d (.bool false)] [] [])))) none)) none) (
 (some (.ret [.d (.int .i64 x7), .d (.bool false)] [] [])))) := by kernel_rfl
end
abbrev aq0 : aP := ajC gG (cT 185 stringslite_HasPrefix_out) (cT 186 stringslite_HasPrefix_out)
theorem ava : aq0 = aQ gG := by unfold aq0 ajC; repeat rw [bB fun _ h => h]
abbrev axM := aku aq0 (bP SE gG (SE.hl 175) (SE.hr 175)) (J0 SE aq0)
theorem wH : ∀ (fu : Nat) (x0 : List Int) (x1 x6 x7 x8 : Int), Le (Option.map aX (cN fu x0 x1 x6 x7 x8)) (axM (List.map eI x0) x1 x6 x7 x8) := by
 intro fu
 induction fu with
 | zero => intros; exact le_none
 | succ fu ih =>
  intro x0 x1 x6 x7 x8
  refine Le.trans ?_ (le_of_eq ((aZ ava).trans (aza ..)).symm)
  unfold cN
  refine lC ?_ ?_
  ·refine lG (by simp only [EN]) ?_
   refine lQ eX stringslite_HasPrefix_inj (by (try simp only [EN]); exact ajF (List.getD x0 (Int.toNat (w6 (shr .u64 (IntKind.wrap .u64 (w6 (x7 + x8))) 1))) default) x1) fun r0 _ => ?_
   refine lC ?_ ?_
   ·exact ih x0 x1 x6 (w6 ((w6 (shr .u64 (IntKind.wrap .u64 (w6 (x7 + x8))) 1)) + 1)) x8
   ·exact ih x0 x1 x6 x7 (w6 (shr .u64 (IntKind.wrap .u64 (w6 (x7 + x8))) 1))
  ·refine lC ?_ ?_
   ·refine lG (by simp only [EN]) ?_
    refine lD (by simp only [EN]) ?_ ?_
    ·exact aJ rfl
    ·refine lG (by simp only [EN]) ?_
     refine lQ eX stringslite_HasPrefix_inj (by (try simp only [EN]); exact zN (List.getD x0 (Int.toNat x7) default)) fun r1 _ => ?_
     refine lC ?_ ?_
     ·refine lQ eX stringslite_HasPrefix_inj (zN _) fun r2 _ => ?_
      exact aJ rfl
     ·exact aJ rfl
   ·exact aJ rfl
theorem kK (p0 : List Int) (p1 : Int) : Le (Option.map aX (dP p0 p1)) (bA SE 175 [.d (.sl [.int .i64] (List.map eI p0)), .d (.int .i64 p1)] [] []) := by
 refine aV ava rfl ?_
 refine Le.trans ?_ (le_of_eq (aEX ..).symm)
 unfold dP
 (try simp only [EN]); exact wH fuel p0 p1 (List.length p0 : Int) 0 (List.length p0 : Int)
end Te
end PX
