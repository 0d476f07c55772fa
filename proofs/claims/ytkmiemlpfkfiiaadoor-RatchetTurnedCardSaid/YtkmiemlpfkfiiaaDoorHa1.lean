/- Contracts: hash, first part. Conditions: none beyond those that each theorem states. -/
import Derived.Test.YtkmiemlpfkfiiaaDoorTab
import Derived.Test.YtkmiemlpfkfiiaaDoorFwM
import Derived.Test.YtkmiemlpfkfiiaaDoorSt6
namespace Go.Proofs.YtkmiemlpfkfiiaaDoor
open List renaming getD_eq_getElem?_getD → aI
open Nat renaming zero_le → aJ
open Rd renaming cast → bC, ofRest → aK, sub → bf
open Tryd
set_option linter.unusedVariables false
set_option linter.unusedSimpArgs false
def Qb9 : List (BitVec 32) := [1779033703#32, 3144134277#32, 1013904242#32, 2773480762#32, 1359893119#32, 2600822924#32, 528734635#32, 1541459225#32]
def F9 : List (BitVec 32) := [1116352408#32, 1899447441#32, 3049323471#32, 3921009573#32, 961987163#32, 1508970993#32, 2453635748#32, 2870763221#32, 3624381080#32, 310598401#32, 607225278#32, 1426881987#32, 1925078388#32, 2162078206#32, 2614888103#32, 3248222580#32, 3835390401#32, 4022224774#32, 264347078#32, 604807628#32, 770255983#32, 1249150122#32, 1555081692#32, 1996064986#32, 2554220882#32, 2821834349#32, 2952996808#32, 3210313671#32, 3336571891#32, 3584528711#32, 113926993#32, 338241895#32, 666307205#32, 773529912#32, 1294757372#32, 1396182291#32, 1695183700#32, 1986661051#32, 2177026350#32, 2456956037#32, 2730485921#32, 2820302411#32, 3259730800#32, 3345764771#32, 3516065817#32, 3600352804#32, 4094571909#32, 275423344#32, 430227734#32, 506948616#32, 659060556#32, 883997877#32, 958139571#32, 1322822218#32, 1537002063#32, 1747873779#32, 1955562222#32, 2024104815#32, 2227730452#32, 2361852424#32, 2428436474#32, 2756734187#32, 3204031479#32, 3329325298#32]
@[simp] theorem roundL_length : F9.length = 64 := rfl
structure Tabs (m : Nat → Option Obj) : Prop where
 start : ∃ E fz, m 0 = some (.cells (cl u32 [1779033703#32, 3144134277#32, 1013904242#32, 2773480762#32, 1359893119#32, 2600822924#32, 528734635#32, 1541459225#32]) E fz)
 round : ∃ E fz, m 1 = some (.cells (cl u32 F9) E fz)
theorem Tabs.mono {m m' : Nat → Option Obj} (h : Tabs m) (hm : ∀ b o, m b = some o → m' b = some o) : Tabs m' :=
 ⟨let ⟨E, fz, e⟩ := h.start; ⟨E, fz, hm _ _ e⟩, let ⟨E, fz, e⟩ := h.round; ⟨E, fz, hm _ _ e⟩⟩
def be4 (a b c d : BitVec 8) : BitVec 32 := (((0#32 <<< 8 ||| a.setWidth 32) <<< 8 ||| b.setWidth 32) <<< 8 ||| c.setWidth 32) <<< 8 ||| d.setWidth 32
def Qdy (l : Z4) (w : List (BitVec 32)) (k : Nat) : BitVec 32 :=
 if k < 16 then be4 (l.getD (4 * k) 0) (l.getD (4 * k + 1) 0) (l.getD (4 * k + 2) 0) (l.getD (4 * k + 3) 0)
 else (w.getD (k - 16) 0 + w.getD (k - 7) 0) + ((Q8 (w.getD (k - 15) 0) (-7) ^^^ Q8 (w.getD (k - 15) 0) (-18)) ^^^ (w.getD (k - 15) 0) >>> 3)
  + ((Q8 (w.getD (k - 2) 0) (-17) ^^^ Q8 (w.getD (k - 2) 0) (-19)) ^^^ (w.getD (k - 2) 0) >>> 10)
def Wu (l : Z4) : Nat → List (BitVec 32)
 | 0 => List.replicate 64 0
 | k + 1 => (Wu l k).set k (Qdy l (Wu l k) k)
@[simp] theorem Qaj (l : Z4) (k : Nat) : (Wu l k).length = 64 := by
 induction k with
 | zero => simp [Wu]
 | succ k ih => simp [Wu, ih]
theorem Qky (l : Z4) : ∀ (k j : Nat), k ≤ j → (Wu l k).getD j 0 = 0 := by
 intro k
 induction k with
 | zero =>
  intro j _
  simp only [Wu, aI, List.getElem?_replicate]
  split <;> rfl
 | succ k ih =>
  intro j h
  have := ih j oM
  simp only [Wu, aI, List.getElem?_set] at this ⊢
  rw [if_neg oM]; exact this
theorem H9 {α : Type} (l : List α) (k : Nat) (a z : α) (h : k < l.length) : (l.set k a).getD k z = a := by simp [aI, h]
theorem Qhx (l : Z4) (k : Nat) (h : k < 16) (a b c d : BitVec 8) (ha : a = l.getD (4 * k) 0) (hb : b = l.getD (4 * k + 1) 0) (hc : c = l.getD (4 * k + 2) 0) (hd : d = l.getD (4 * k + 3) 0) (w : List (BitVec 32)) (hw : w = Wu l k) :
  (((w.set k (w.getD k 0 <<< 8 ||| a.setWidth 32)).set k ((w.set k (w.getD k 0 <<< 8 ||| a.setWidth 32)).getD k 0 <<< 8 ||| b.setWidth 32)).set k
   (((w.set k (w.getD k 0 <<< 8 ||| a.setWidth 32)).set k ((w.set k (w.getD k 0 <<< 8 ||| a.setWidth 32)).getD k 0 <<< 8 ||| b.setWidth 32)).getD k 0 <<< 8 ||| c.setWidth 32)).set k
   ((((w.set k (w.getD k 0 <<< 8 ||| a.setWidth 32)).set k ((w.set k (w.getD k 0 <<< 8 ||| a.setWidth 32)).getD k 0 <<< 8 ||| b.setWidth 32)).set k
   (((w.set k (w.getD k 0 <<< 8 ||| a.setWidth 32)).set k ((w.set k (w.getD k 0 <<< 8 ||| a.setWidth 32)).getD k 0 <<< 8 ||| b.setWidth 32)).getD k 0 <<< 8 ||| c.setWidth 32)).getD k 0 <<< 8 ||| d.setWidth 32) = Wu l (k + 1) := by
 subst hw ha hb hc hd
 simp only [Wu, List.set_set]
 rw [H9 _ _ _ _ (by simp; omega), H9 _ _ _ _ (by simp; omega), H9 _ _ _ _ (by simp; omega), Qky l k k (Nat.le_refl _)]
 unfold Qdy
 rw [if_pos h]; rfl
theorem Qp4 (l : Z4) (k : Nat) (h : ¬ k < 16) (h2 : k < 64) (w : List (BitVec 32)) (hw : w = Wu l k) (A B C : BitVec 32)
  (hA : A = w.getD (k - 16) 0 + w.getD (k - 7) 0) (hB : B = (Q8 (w.getD (k - 15) 0) (-7) ^^^ Q8 (w.getD (k - 15) 0) (-18)) ^^^ (w.getD (k - 15) 0) >>> 3)
  (hC : C = (Q8 (w.getD (k - 2) 0) (-17) ^^^ Q8 (w.getD (k - 2) 0) (-19)) ^^^ (w.getD (k - 2) 0) >>> 10) :
  ((w.set k A).set k ((w.set k A).getD k 0 + B)).set k (((w.set k A).set k ((w.set k A).getD k 0 + B)).getD k 0 + C) = Wu l (k + 1) := by
 subst hw hA hB hC
 simp only [Wu, List.set_set]
 rw [H9 _ _ _ _ (by simp; omega), H9 _ _ _ _ (by simp; omega)]
 unfold Qdy
 rw [if_neg h]
theorem Tq (l : Z4) (k : Nat) (h : 4 * k + 4 ≤ l.length) : (l.drop (4 * (k : Int)).toNat).take ((4 * (k : Int) + 4).toNat - (4 * (k : Int)).toNat) = [l.getD (4 * k) 0, l.getD (4 * k + 1) 0, l.getD (4 * k + 2) 0, l.getD (4 * k + 3) 0] := by
 have e1 : (4 * (k : Int)).toNat = 4 * k := by omega
 have e2 : (4 * (k : Int) + 4).toNat - (4 * (k : Int)).toNat = 4 := by omega
 rw [e2, e1]
 refine List.ext_getElem (by simp; omega) fun i h1 h2 => ?_
 simp only [List.length_cons, List.length_nil] at h2
 have : i = 0 ∨ i = 1 ∨ i = 2 ∨ i = 3 := by omega
 rcases this with rfl | rfl | rfl | rfl <;> simp [aI] <;> rw [List.getElem?_eq_getElem oM] <;> rfl
def Dj (l : Z4) : List (BitVec 32) := Wu l 64
@[simp] theorem schedP_length (l : Z4) : (Dj l).length = 64 := Qaj l 64
def rnd (w t : BitVec 32) : List (BitVec 32) → List (BitVec 32)
 | [a, z, c, e, f, g, h, k] =>
  let t1 := (((k + w) + t) + ((f &&& g) ^^^ (~~~f &&& h))) + ((Q8 f (-6) ^^^ Q8 f (-11)) ^^^ Q8 f (-25))
  let u := (((a &&& z) ^^^ (a &&& c)) ^^^ (z &&& c)) + ((Q8 a (-2) ^^^ Q8 a (-13)) ^^^ Q8 a (-22))
  [t1 + u, a, z, c, e + t1, f, g, h]
 | l => l
def Qam (wl : List (BitVec 32)) : Nat → List (BitVec 32) → List (BitVec 32)
 | 0, s => s
 | k + 1, s => rnd (wl.getD k 0) (F9.getD k 0) (Qam wl k s)
def Qhu (h : List (BitVec 32)) (l : Z4) : List (BitVec 32) := List.zipWith (· + ·) h (Qam (Dj l) 64 h)
theorem c_hnew  (w0 : World)  (hT : Tabs (Jd w0)) : Xz prog 84 #[] w0 (fun r w1 => ∃ b, r = ptr b 0 ∧ Mem w1 (Qs w0) [(b, .cells #[(u32 1779033703#32), (u32 3144134277#32), (u32 1013904242#32), (u32 2773480762#32), (u32 1359893119#32), (u32 2600822924#32), (u32 528734635#32), (u32 1541459225#32), J3, (u64 0#64)] 154 (0, 0))]) := by
 refine Qz (args := []) func84 rfl ntmps84 results84 rfl ?_
 have m0 : Mem w0 (Qs w0) [] := Mem.of_world w0
 obtain ⟨Es, fzs, hTs⟩ := hT.start
 obtain ⟨Er, fzr, hTr⟩ := hT.round
 refine sR <| Zx (Value.pointer none) ?_
 refine rN (sR ?_)
 refine Qd (Qn Y6 rfl Uf rfl (m0.rest _ _ hTs) sZ) <| Qd (Ws (c := #[(u32 1779033703#32), (u32 3144134277#32), (u32 1013904242#32), (u32 2773480762#32), (u32 1359893119#32), (u32 2600822924#32), (u32 528734635#32), (u32 1541459225#32), J3, (u64 0)]) (pl := [(0, 8), (8, 1), (9, 1)]) Qjg Vg Xv (Jp (i := 0) (v := (agg u32 ([1779033703#32, 3144134277#32, 1013904242#32, 2773480762#32, 1359893119#32, 2600822924#32, 528734635#32, 1541459225#32]))) (cs := (cl u32 ([1779033703#32, 3144134277#32, 1013904242#32, 2773480762#32, 1359893119#32, 2600822924#32, 528734635#32, 1541459225#32]))) rfl rfl Vt) Xv) <| Y5 (Fz (cs := #[(u32 1779033703#32), (u32 3144134277#32), (u32 1013904242#32), (u32 2773480762#32), (u32 1359893119#32), (u32 2600822924#32), (u32 528734635#32), (u32 1541459225#32), J3, (u64 0)]) m0 rfl) fun w1 b3 m1 => Zx (ptr b3 0) ?_
 refine rN (Z8 ?_)
 refine Qq [(ptr b3 0)] ⟨rfl, trivial⟩ ?_
 exact ⟨b3, rfl, m1⟩
theorem Qrm (vb : Value) (l : Z4) (w0 : World)  (hr : Rd (Jd w0) u8 vb l) (hl : l.length = 64) : Xz prog 111 #[vb] w0 (fun r w1 => r = (agg u32 (Dj l)) ∧ Ext w0 w1) := by
 refine Qz (args := [vb]) func111 rfl ntmps111 results111 rfl ?_
 have m0 : Mem w0 (Qs w0) [] := Mem.of_world w0
 refine sR <| Y5 (Q7 m0 Qbn) fun w1 b2 m1 => ?_
 refine rN (Qa (sR ?_))
 refine Zm (i64 0) ?_
 refine rN (Qh ?_)
 refine Y1 (fun g wv => ∃ (k : Nat) (wl : List (BitVec 32)), (k ≤ 64) ∧ (wl = Wu l k) ∧ g 0 = vb ∧ g 2 = (ptr b2 0) ∧ g 8 = (i64 (k : Int)) ∧ Mem wv (Qs w0) [(b2, .cells (cl u32 wl) 160 (0, 0))]) (fun g wv => (64 - RowKit.intOf (g 8)).toNat) ?_ ?_
 ·exact ⟨0, _, oM, rfl, rfl, rfl, rfl, m1⟩
 rintro fr2 w3 ⟨k, wl, hk1, hw, s0, s2, s8, m3⟩
 have z8 := s8
 have hwl : wl.length = 64 := by rw [hw]; simp
 refine sR <| Qd (Xd (b := 64) s8 rfl) ?_
 refine rN (Qa ?_)
 refine Zz rfl (fun hc4 => ?_) (fun hc4 => ?_)
 ·
  have hc4p := of_decide_eq_true hc4
  refine Qo (Qc (Qa (Qh (sR ?_))))
  refine X9 s8 <| Zx (i64 (k : Int)) ?_
  refine rN (Qa (sR ?_))
  refine Zm (i64 (k : Int)) <| Qd (Xd (b := 16) rfl rfl) <| rN ?_
  refine Zz rfl (fun hc5 => ?_) (fun hc5 => ?_)
  ·
   have hc5p := of_decide_eq_true hc5
   refine Qa (sR ?_)
   refine X9 s0 <| Zm (i64 (k : Int)) <| Qd (Ku (a := 4) rfl rfl oM oM) <| Zm (i64 (k : Int)) <| Qd (Ku (a := 4) rfl rfl oM oM) <| Qd (Zg (b := 4) rfl rfl oM oM) <| Qd (Y8 (i := 4 * (k : Int)) (j := 4 * (k : Int) + 4) (aK hr m3) Zn Yr rfl (Yb (k := .i64) (i := 4 * (k : Int)) rfl) (Yb (k := .i64) (i := 4 * (k : Int) + 4) rfl) oM oM oM) <| Qd (Yi (l := [l.getD (4 * k) 0, l.getD (4 * k + 1) 0, l.getD (4 * k + 2) 0, l.getD (4 * k + 3) 0]) (bC (bf (aK hr m3) oM oM oM) (Tq l k oM)) Zn rfl) <| Zm (i64 0) ?_
   refine rN (Qh ?_)
   refine Vk 5 ?_
   refine Zq (sR ?_)
   refine Qd (Jc 0 4) ?_
   refine rN (Qa ?_)
   refine Za rfl Yx ?_
   refine Qo (Qc (Qa (Qh (sR ?_))))
   refine Qd (Zo (i := 0) (bC (bf (aK hr m3) oM oM oM) (Tq l k oM)) Zn Yr rfl rfl oM Ya) <| Qd (v := (u8 (l.getD (4 * k) 0))) (Xy (l := [l.getD (4 * k) 0, l.getD (4 * k + 1) 0, l.getD (4 * k + 2) 0, l.getD (4 * k + 3) 0]) (i := 0) (dflt := 0) (bC (bf (aK hr m3) oM oM oM) (Tq l k oM)) V3 rfl oM Ya rfl) <| Zx (u8 (l.getD (4 * k) 0)) ?_
   refine rN (Qb ?_)
   refine Zm (i64 (k : Int)) <| Zm (i64 (k : Int)) <| Qd (Zj (r := k) oM Gl Ze s2 rfl oM sD) <| Qd (Qi Xt rfl rfl m3.h0 (Qu _ _ 0 sD)) <| Qd (Fh (b := 8) rfl rfl oM) <| Zm (u8 (l.getD (4 * k) 0)) <| Qd (Kt ⟨_, V3⟩ Xt rfl) <| Qd (Dv rfl rfl) <| Qd (Zj (r := k) oM Gl Ze s2 rfl oM sD) <| Ye m3 (Xw (f := u32) (a := ((wl.getD k 0) <<< 8) ||| ((l.getD (4 * k) 0).setWidth 32)) Xb Ze rfl rfl m3.h0 sD (.inl (aJ _))) fun w6 m6 => ?_
   refine Zp (Qe (Qb ?_))
   refine Qd (v := (i64 1)) (Yk 0 1) <| Zm (i64 1) ?_
   refine rN (Zq (sR ?_))
   refine Qd (Jc 1 4) ?_
   refine rN (Qa ?_)
   refine Za rfl Yx ?_
   refine Qo (Qc (Qa (Qh (sR ?_))))
   refine Qd (Zo (i := 1) (bC (bf (aK hr m6) oM oM oM) (Tq l k oM)) Zn Yr rfl rfl oM Ya) <| Qd (v := (u8 (l.getD (4 * k + 1) 0))) (Xy (l := [l.getD (4 * k) 0, l.getD (4 * k + 1) 0, l.getD (4 * k + 2) 0, l.getD (4 * k + 3) 0]) (i := 1) (dflt := 0) (bC (bf (aK hr m6) oM oM oM) (Tq l k oM)) V3 rfl oM Ya rfl) <| Zx (u8 (l.getD (4 * k + 1) 0)) ?_
   refine rN (Qb ?_)
   refine Zm (i64 (k : Int)) <| Zm (i64 (k : Int)) <| Qd (Zj (r := k) oM Gl Ze s2 rfl oM sD) <| Qd (Qi Xt rfl rfl m6.h0 (Qu _ _ 0 sD)) <| Qd (Fh (b := 8) rfl rfl oM) <| Zm (u8 (l.getD (4 * k + 1) 0)) <| Qd (Kt ⟨_, V3⟩ Xt rfl) <| Qd (Dv rfl rfl) <| Qd (Zj (r := k) oM Gl Ze s2 rfl oM sD) <| Ye m6 (Xw (f := u32) (a := (((wl.set k (((wl.getD k 0) <<< 8) ||| ((l.getD (4 * k) 0).setWidth 32))).getD k 0) <<< 8) ||| ((l.getD (4 * k + 1) 0).setWidth 32)) Xb Ze rfl rfl m6.h0 sD (.inl (aJ _))) fun w7 m7 => ?_
   refine Zp (Qe (Qb ?_))
   refine Qd (v := (i64 2)) (Yk 1 1) <| Zm (i64 2) ?_
   refine rN (Zq (sR ?_))
   refine Qd (Jc 2 4) ?_
   refine rN (Qa ?_)
   refine Za rfl Yx ?_
   refine Qo (Qc (Qa (Qh (sR ?_))))
   refine Qd (Zo (i := 2) (bC (bf (aK hr m7) oM oM oM) (Tq l k oM)) Zn Yr rfl rfl oM Ya) <| Qd (v := (u8 (l.getD (4 * k + 2) 0))) (Xy (l := [l.getD (4 * k) 0, l.getD (4 * k + 1) 0, l.getD (4 * k + 2) 0, l.getD (4 * k + 3) 0]) (i := 2) (dflt := 0) (bC (bf (aK hr m7) oM oM oM) (Tq l k oM)) V3 rfl oM Ya rfl) <| Zx (u8 (l.getD (4 * k + 2) 0)) ?_
   refine rN (Qb ?_)
   refine Zm (i64 (k : Int)) <| Zm (i64 (k : Int)) <| Qd (Zj (r := k) oM Gl Ze s2 rfl oM sD) <| Qd (Qi Xt rfl rfl m7.h0 (Qu _ _ 0 sD)) <| Qd (Fh (b := 8) rfl rfl oM) <| Zm (u8 (l.getD (4 * k + 2) 0)) <| Qd (Kt ⟨_, V3⟩ Xt rfl) <| Qd (Dv rfl rfl) <| Qd (Zj (r := k) oM Gl Ze s2 rfl oM sD) <| Ye m7 (Xw (f := u32) (a := ((((wl.set k (((wl.getD k 0) <<< 8) ||| ((l.getD (4 * k) 0).setWidth 32))).set k ((((wl.set k (((wl.getD k 0) <<< 8) ||| ((l.getD (4 * k) 0).setWidth 32))).getD k 0) <<< 8) ||| ((l.getD (4 * k + 1) 0).setWidth 32))).getD k 0) <<< 8) ||| ((l.getD (4 * k + 2) 0).setWidth 32)) Xb Ze rfl rfl m7.h0 sD (.inl (aJ _))) fun w8 m8 => ?_
   refine Zp (Qe (Qb ?_))
   refine Qd (v := (i64 3)) (Yk 2 1) <| Zm (i64 3) ?_
   refine rN (Zq (sR ?_))
   refine Qd (Jc 3 4) ?_
   refine rN (Qa ?_)
   refine Za rfl Yx ?_
   refine Qo (Qc (Qa (Qh (sR ?_))))
   refine Qd (Zo (i := 3) (bC (bf (aK hr m8) oM oM oM) (Tq l k oM)) Zn Yr rfl rfl oM Ya) <| Qd (v := (u8 (l.getD (4 * k + 3) 0))) (Xy (l := [l.getD (4 * k) 0, l.getD (4 * k + 1) 0, l.getD (4 * k + 2) 0, l.getD (4 * k + 3) 0]) (i := 3) (dflt := 0) (bC (bf (aK hr m8) oM oM oM) (Tq l k oM)) V3 rfl oM Ya rfl) <| Zx (u8 (l.getD (4 * k + 3) 0)) ?_
   refine rN (Qb ?_)
   refine Zm (i64 (k : Int)) <| Zm (i64 (k : Int)) <| Qd (Zj (r := k) oM Gl Ze s2 rfl oM sD) <| Qd (Qi Xt rfl rfl m8.h0 (Qu _ _ 0 sD)) <| Qd (Fh (b := 8) rfl rfl oM) <| Zm (u8 (l.getD (4 * k + 3) 0)) <| Qd (Kt ⟨_, V3⟩ Xt rfl) <| Qd (Dv rfl rfl) <| Qd (Zj (r := k) oM Gl Ze s2 rfl oM sD) <| Ye m8 (Xw (f := u32) (a := (((((wl.set k (((wl.getD k 0) <<< 8) ||| ((l.getD (4 * k) 0).setWidth 32))).set k ((((wl.set k (((wl.getD k 0) <<< 8) ||| ((l.getD (4 * k) 0).setWidth 32))).getD k 0) <<< 8) ||| ((l.getD (4 * k + 1) 0).setWidth 32))).set k (((((wl.set k (((wl.getD k 0) <<< 8) ||| ((l.getD (4 * k) 0).setWidth 32))).set k ((((wl.set k (((wl.getD k 0) <<< 8) ||| ((l.getD (4 * k) 0).setWidth 32))).getD k 0) <<< 8) ||| ((l.getD (4 * k + 1) 0).setWidth 32))).getD k 0) <<< 8) ||| ((l.getD (4 * k + 2) 0).setWidth 32))).getD k 0) <<< 8) ||| ((l.getD (4 * k + 3) 0).setWidth 32)) Xb Ze rfl rfl m8.h0 sD (.inl (aJ _))) fun w9 m9 => ?_
   refine Zp (Qe (Qb ?_))
   refine Qd (v := (i64 4)) (Yk 3 1) <| Zm (i64 4) ?_
   refine rN (Zq (sR ?_))
   refine Qd (Jc 4 4) ?_
   refine rN (Qa ?_)
   refine Ja rfl Yx <| X3 ?_
   refine Qj (Qj (Xk ?_))
   refine X3 ?_
   refine Qj (Xk ?_)
   refine Qb <| Qd (Zg (b := 1) s8 rfl oM oM) <| Zm (i64 ((k : Int) + 1)) <| rN ?_
   have hwn : (((wl.set k (((wl.getD k 0) <<< 8) ||| ((l.getD (4 * k) 0).setWidth 32))).set k ((((wl.set k (((wl.getD k 0) <<< 8) ||| ((l.getD (4 * k) 0).setWidth 32))).getD k 0) <<< 8) ||| ((l.getD (4 * k + 1) 0).setWidth 32))).set k (((((wl.set k (((wl.getD k 0) <<< 8) ||| ((l.getD (4 * k) 0).setWidth 32))).set k ((((wl.set k (((wl.getD k 0) <<< 8) ||| ((l.getD (4 * k) 0).setWidth 32))).getD k 0) <<< 8) ||| ((l.getD (4 * k + 1) 0).setWidth 32))).getD k 0) <<< 8) ||| ((l.getD (4 * k + 2) 0).setWidth 32))).set k ((((((wl.set k (((wl.getD k 0) <<< 8) ||| ((l.getD (4 * k) 0).setWidth 32))).set k ((((wl.set k (((wl.getD k 0) <<< 8) ||| ((l.getD (4 * k) 0).setWidth 32))).getD k 0) <<< 8) ||| ((l.getD (4 * k + 1) 0).setWidth 32))).set k (((((wl.set k (((wl.getD k 0) <<< 8) ||| ((l.getD (4 * k) 0).setWidth 32))).set k ((((wl.set k (((wl.getD k 0) <<< 8) ||| ((l.getD (4 * k) 0).setWidth 32))).getD k 0) <<< 8) ||| ((l.getD (4 * k + 1) 0).setWidth 32))).getD k 0) <<< 8) ||| ((l.getD (4 * k + 2) 0).setWidth 32))).getD k 0) <<< 8) ||| ((l.getD (4 * k + 3) 0).setWidth 32)) = Wu l (k + 1) := by
    exact Qhx l k oM (l.getD (4 * k) 0) (l.getD (4 * k + 1) 0) (l.getD (4 * k + 2) 0) (l.getD (4 * k + 3) 0) rfl rfl rfl rfl wl hw
   exact ⟨⟨k + 1, (((wl.set k (((wl.getD k 0) <<< 8) ||| ((l.getD (4 * k) 0).setWidth 32))).set k ((((wl.set k (((wl.getD k 0) <<< 8) ||| ((l.getD (4 * k) 0).setWidth 32))).getD k 0) <<< 8) ||| ((l.getD (4 * k + 1) 0).setWidth 32))).set k (((((wl.set k (((wl.getD k 0) <<< 8) ||| ((l.getD (4 * k) 0).setWidth 32))).set k ((((wl.set k (((wl.getD k 0) <<< 8) ||| ((l.getD (4 * k) 0).setWidth 32))).getD k 0) <<< 8) ||| ((l.getD (4 * k + 1) 0).setWidth 32))).getD k 0) <<< 8) ||| ((l.getD (4 * k + 2) 0).setWidth 32))).set k ((((((wl.set k (((wl.getD k 0) <<< 8) ||| ((l.getD (4 * k) 0).setWidth 32))).set k ((((wl.set k (((wl.getD k 0) <<< 8) ||| ((l.getD (4 * k) 0).setWidth 32))).getD k 0) <<< 8) ||| ((l.getD (4 * k + 1) 0).setWidth 32))).set k (((((wl.set k (((wl.getD k 0) <<< 8) ||| ((l.getD (4 * k) 0).setWidth 32))).set k ((((wl.set k (((wl.getD k 0) <<< 8) ||| ((l.getD (4 * k) 0).setWidth 32))).getD k 0) <<< 8) ||| ((l.getD (4 * k + 1) 0).setWidth 32))).getD k 0) <<< 8) ||| ((l.getD (4 * k + 2) 0).setWidth 32))).getD k 0) <<< 8) ||| ((l.getD (4 * k + 3) 0).setWidth 32)), oM, hwn, s0, s2, rfl, m9⟩, Uj rfl z8 oM oM⟩
  ·
   have hc5p := of_decide_eq_false hc5
   refine Qo (Qc (Qa ?_))
   refine Xi (dl 9) 9 Xv <| J7 rfl (i64 (k : Int)) <| X4 rfl (Yg (b := 15) rfl rfl oM oM) <| X4 rfl (Zj (r := ((k : Int) - 15 : Int).toNat) oM Gl Ze s2 rfl oM sD) <| Yj (v := (u32 (wl.getD (((k : Int) - 15 : Int).toNat) 0))) rfl (fun _ e' => Qi Xt rfl rfl (m3.ext e').h0 (Qu _ _ 0 sD)) <| J7 rfl (i64 (k : Int)) <| X4 rfl (Yg (b := 2) rfl rfl oM oM) <| X4 rfl (Zj (r := ((k : Int) - 2 : Int).toNat) oM Gl Ze s2 rfl oM sD) <| Yj (v := (u32 (wl.getD (((k : Int) - 2 : Int).toNat) 0))) rfl (fun _ e' => Qi Xt rfl rfl (m3.ext e').h0 (Qu _ _ 0 sD)) <| X4 rfl (Un (v := (u32 (wl.getD (((k : Int) - 15 : Int).toNat) 0))) rfl) <| Gf m3 fun w10 m10 => Zx (u32 (wl.getD (((k : Int) - 2 : Int).toNat) 0)) ?_
   refine rN (Qa ?_)
   refine Xi (dl 10) 10 Xv <| J7 rfl (i64 (k : Int)) <| J7 rfl (i64 (k : Int)) <| X4 rfl (Yg (b := 16) rfl rfl oM oM) <| X4 rfl (Zj (r := ((k : Int) - 16 : Int).toNat) oM Gl Ze s2 rfl oM sD) <| Yj (v := (u32 (wl.getD (((k : Int) - 16 : Int).toNat) 0))) rfl (fun _ e' => Qi Xt rfl rfl (m10.ext e').h0 (Qu _ _ 0 sD)) <| J7 rfl (i64 (k : Int)) <| X4 rfl (Yg (b := 7) rfl rfl oM oM) <| X4 rfl (Zj (r := ((k : Int) - 7 : Int).toNat) oM Gl Ze s2 rfl oM sD) <| Yj (v := (u32 (wl.getD (((k : Int) - 7 : Int).toNat) 0))) rfl (fun _ e' => Qi Xt rfl rfl (m10.ext e').h0 (Qu _ _ 0 sD)) <| X4 rfl (Xx rfl rfl) <| Gf m10 fun w11 m11 => Qd (Zj (r := k) oM Gl Ze s2 rfl oM sD) <| Ye m11 (Xw (f := u32) (a := (wl.getD (((k : Int) - 16 : Int).toNat) 0) + (wl.getD (((k : Int) - 7 : Int).toNat) 0)) Xb Ze rfl rfl m11.h0 sD (.inl (aJ _))) fun w12 m12 => ?_
   refine rN (Qa ?_)
   refine Xi (dl 11) 11 Xv <| J7 rfl (i64 (k : Int)) <| X4 rfl (Zj (r := k) oM Gl Ze s2 rfl oM sD) <| Yj rfl (fun _ e' => Qi Xt rfl rfl (m12.ext e').h0 (Qu _ _ 0 sD)) <| J7 rfl (u32 (wl.getD (((k : Int) - 15 : Int).toNat) 0)) <| Wy (v := (u32 (Q8 (wl.getD (((k : Int) - 15 : Int).toNat) 0) ((-7) : Int)))) rfl rfl (fun w13 _ew13 => Vf.mono (Qa4 (Xl rfl rfl) (Em (wl.getD (((k : Int) - 15 : Int).toNat) 0) _ _)) (by rintro _ w14 ⟨rfl, rfl⟩; exact ⟨rfl, Ext.refl _⟩)) <| J7 rfl (u32 (wl.getD (((k : Int) - 15 : Int).toNat) 0)) <| Wy (v := (u32 (Q8 (wl.getD (((k : Int) - 15 : Int).toNat) 0) ((-18) : Int)))) rfl rfl (fun w16 _ew16 => Vf.mono (Qa4 (Xl rfl rfl) (Em (wl.getD (((k : Int) - 15 : Int).toNat) 0) _ _)) (by rintro _ w17 ⟨rfl, rfl⟩; exact ⟨rfl, Ext.refl _⟩)) <| X4 rfl (Jm rfl rfl) <| J7 rfl (u32 (wl.getD (((k : Int) - 15 : Int).toNat) 0)) <| X4 rfl (Ul (b := 3) rfl rfl oM) <| X4 rfl (Jm rfl rfl) ?_
   refine Gf m12 fun w19 m19 => Qd (Xx rfl rfl) <| Qd (Zj (r := k) oM Gl Ze s2 rfl oM sD) <| Ye m19 (Xw (f := u32) (a := ((wl.set k ((wl.getD (((k : Int) - 16 : Int).toNat) 0) + (wl.getD (((k : Int) - 7 : Int).toNat) 0))).getD k 0) + (((Q8 (wl.getD (((k : Int) - 15 : Int).toNat) 0) ((-7) : Int)) ^^^ (Q8 (wl.getD (((k : Int) - 15 : Int).toNat) 0) ((-18) : Int))) ^^^ ((wl.getD (((k : Int) - 15 : Int).toNat) 0) >>> 3))) Xb Ze rfl rfl m19.h0 sD (.inl (aJ _))) fun w20 m20 => rN <| Xi (dl 11) 11 Xv <| J7 rfl (i64 (k : Int)) <| X4 rfl (Zj (r := k) oM Gl Ze s2 rfl oM sD) <| Yj rfl (fun _ e' => Qi Xt rfl rfl (m20.ext e').h0 (Qu _ _ 0 sD)) <| J7 rfl (u32 (wl.getD (((k : Int) - 2 : Int).toNat) 0)) ?_
   refine Wy (v := (u32 (Q8 (wl.getD (((k : Int) - 2 : Int).toNat) 0) ((-17) : Int)))) rfl rfl (fun w21 _ew21 => Vf.mono (Qa4 (Xl rfl rfl) (Em (wl.getD (((k : Int) - 2 : Int).toNat) 0) _ _)) (by rintro _ w22 ⟨rfl, rfl⟩; exact ⟨rfl, Ext.refl _⟩)) <| J7 rfl (u32 (wl.getD (((k : Int) - 2 : Int).toNat) 0)) <| Wy (v := (u32 (Q8 (wl.getD (((k : Int) - 2 : Int).toNat) 0) ((-19) : Int)))) rfl rfl (fun w24 _ew24 => Vf.mono (Qa4 (Xl rfl rfl) (Em (wl.getD (((k : Int) - 2 : Int).toNat) 0) _ _)) (by rintro _ w25 ⟨rfl, rfl⟩; exact ⟨rfl, Ext.refl _⟩)) <| X4 rfl (Jm rfl rfl) <| J7 rfl (u32 (wl.getD (((k : Int) - 2 : Int).toNat) 0)) <| X4 rfl (Ul (b := 10) rfl rfl oM) <| X4 rfl (Jm rfl rfl) <| Gf m20 fun w27 m27 => Qd (Xx rfl rfl) <| Qd (Zj (r := k) oM Gl Ze s2 rfl oM sD) <| Ye m27 (Xw (f := u32) (a := (((wl.set k ((wl.getD (((k : Int) - 16 : Int).toNat) 0) + (wl.getD (((k : Int) - 7 : Int).toNat) 0))).set k (((wl.set k ((wl.getD (((k : Int) - 16 : Int).toNat) 0) + (wl.getD (((k : Int) - 7 : Int).toNat) 0))).getD k 0) + (((Q8 (wl.getD (((k : Int) - 15 : Int).toNat) 0) ((-7) : Int)) ^^^ (Q8 (wl.getD (((k : Int) - 15 : Int).toNat) 0) ((-18) : Int))) ^^^ ((wl.getD (((k : Int) - 15 : Int).toNat) 0) >>> 3)))).getD k 0) + (((Q8 (wl.getD (((k : Int) - 2 : Int).toNat) 0) ((-17) : Int)) ^^^ (Q8 (wl.getD (((k : Int) - 2 : Int).toNat) 0) ((-19) : Int))) ^^^ ((wl.getD (((k : Int) - 2 : Int).toNat) 0) >>> 10))) Xb Ze rfl rfl m27.h0 sD (.inl (aJ _))) fun w28 m28 => ?_
   refine Zp (Qe (Qb ?_))
   refine Qd (Zg (b := 1) s8 rfl oM oM) <| Zm (i64 ((k : Int) + 1)) <| rN ?_
   have hwn : ((wl.set k ((wl.getD (((k : Int) - 16 : Int).toNat) 0) + (wl.getD (((k : Int) - 7 : Int).toNat) 0))).set k (((wl.set k ((wl.getD (((k : Int) - 16 : Int).toNat) 0) + (wl.getD (((k : Int) - 7 : Int).toNat) 0))).getD k 0) + (((Q8 (wl.getD (((k : Int) - 15 : Int).toNat) 0) ((-7) : Int)) ^^^ (Q8 (wl.getD (((k : Int) - 15 : Int).toNat) 0) ((-18) : Int))) ^^^ ((wl.getD (((k : Int) - 15 : Int).toNat) 0) >>> 3)))).set k ((((wl.set k ((wl.getD (((k : Int) - 16 : Int).toNat) 0) + (wl.getD (((k : Int) - 7 : Int).toNat) 0))).set k (((wl.set k ((wl.getD (((k : Int) - 16 : Int).toNat) 0) + (wl.getD (((k : Int) - 7 : Int).toNat) 0))).getD k 0) + (((Q8 (wl.getD (((k : Int) - 15 : Int).toNat) 0) ((-7) : Int)) ^^^ (Q8 (wl.getD (((k : Int) - 15 : Int).toNat) 0) ((-18) : Int))) ^^^ ((wl.getD (((k : Int) - 15 : Int).toNat) 0) >>> 3)))).getD k 0) + (((Q8 (wl.getD (((k : Int) - 2 : Int).toNat) 0) ((-17) : Int)) ^^^ (Q8 (wl.getD (((k : Int) - 2 : Int).toNat) 0) ((-19) : Int))) ^^^ ((wl.getD (((k : Int) - 2 : Int).toNat) 0) >>> 10))) = Wu l (k + 1) := by
    have e16 : ((k : Int) - 16).toNat = k - 16 := by omega
    have e7 : ((k : Int) - 7).toNat = k - 7 := by omega
    have e15 : ((k : Int) - 15).toNat = k - 15 := by omega
    have e2 : ((k : Int) - 2).toNat = k - 2 := by omega
    rw [e16, e7, e15, e2]
    exact Qp4 l k oM oM wl hw _ _ _ rfl rfl rfl
   exact ⟨⟨k + 1, ((wl.set k ((wl.getD (((k : Int) - 16 : Int).toNat) 0) + (wl.getD (((k : Int) - 7 : Int).toNat) 0))).set k (((wl.set k ((wl.getD (((k : Int) - 16 : Int).toNat) 0) + (wl.getD (((k : Int) - 7 : Int).toNat) 0))).getD k 0) + (((Q8 (wl.getD (((k : Int) - 15 : Int).toNat) 0) ((-7) : Int)) ^^^ (Q8 (wl.getD (((k : Int) - 15 : Int).toNat) 0) ((-18) : Int))) ^^^ ((wl.getD (((k : Int) - 15 : Int).toNat) 0) >>> 3)))).set k ((((wl.set k ((wl.getD (((k : Int) - 16 : Int).toNat) 0) + (wl.getD (((k : Int) - 7 : Int).toNat) 0))).set k (((wl.set k ((wl.getD (((k : Int) - 16 : Int).toNat) 0) + (wl.getD (((k : Int) - 7 : Int).toNat) 0))).getD k 0) + (((Q8 (wl.getD (((k : Int) - 15 : Int).toNat) 0) ((-7) : Int)) ^^^ (Q8 (wl.getD (((k : Int) - 15 : Int).toNat) 0) ((-18) : Int))) ^^^ ((wl.getD (((k : Int) - 15 : Int).toNat) 0) >>> 3)))).getD k 0) + (((Q8 (wl.getD (((k : Int) - 2 : Int).toNat) 0) ((-17) : Int)) ^^^ (Q8 (wl.getD (((k : Int) - 2 : Int).toNat) 0) ((-19) : Int))) ^^^ ((wl.getD (((k : Int) - 2 : Int).toNat) 0) >>> 10))), oM, hwn, s0, s2, rfl, m28⟩, Uj rfl z8 oM oM⟩
 ·
  have hc4p := of_decide_eq_false hc4
  obtain rfl : k = 64 := by omega
  have hwl : wl.length = 64 := by rw [hw, Qaj]
  refine X3 ?_
  refine Qj (Qj (Xk ?_))
  refine sR <| Qd (Qn Gl rfl Qbn s2 m3.h0 sZ) <| Ye m3 (Qg (f := u32) (l := wl) Xb Qbn s2 rfl sD m3.h0 sZ rfl) fun w29 m29 => ?_
  refine rN (Z8 ?_)
  refine Qq [(agg u32 wl)] ⟨⟨_, s2, Xm Gl rfl Qbn m29.h0 sZ⟩, trivial⟩ ?_
  exact ⟨congrArg (agg u32) hw, m29.toExt⟩
theorem c_take (bd : Nat) (x0 x1 x2 x3 x4 x5 x6 x7 : BitVec 32) (v : Value) (n : BitVec 64) (vb : Value) (l : Z4) (w0 : World) (R : Rest) (m0 : Mem w0 R [(bd, .cells #[(u32 x0), (u32 x1), (u32 x2), (u32 x3), (u32 x4), (u32 x5), (u32 x6), (u32 x7), v, (u64 n)] 154 (0, 0))]) (hT : Tabs R.blk) (hr : Rd R.blk u8 vb l) (hl : l.length = 64) : Xz prog 102 #[(ptr bd 0), vb] w0 (fun r w1 => ∃ y0 y1 y2 y3 y4 y5 y6 y7, [y0, y1, y2, y3, y4, y5, y6, y7] = Qhu [x0, x1, x2, x3, x4, x5, x6, x7] l ∧ Mem w1 R [(bd, .cells #[(u32 y0), (u32 y1), (u32 y2), (u32 y3), (u32 y4), (u32 y5), (u32 y6), (u32 y7), v, (u64 n)] 154 (0, 0))]) := by
 refine Qz (args := [(ptr bd 0), vb]) func102 rfl ntmps102 results102 rfl ?_
 obtain ⟨Es, fzs, hTs⟩ := hT.start
 obtain ⟨Er, fzr, hTr⟩ := hT.round
 refine Qa <| Xi (dl 47) 47 Xv <| J7 rfl (ptr bd 0) <| X4 rfl (Zc rfl) <| X4 rfl (Zl (r := 0) Vg rfl Jj Uf rfl rfl) <| X4 rfl (Xr 0 0 Y6 Ze rfl) <| Yj (v := (u32 x0)) rfl (fun _ e' => Qi Xt rfl rfl (m0.ext e').h0 rfl) <| J7 rfl (ptr bd 0) <| X4 rfl (Zc rfl) <| X4 rfl (Zl (r := 0) Vg rfl Jj Uf rfl rfl) <| X4 rfl (Xr 1 1 Y6 Ze rfl) <| Yj (v := (u32 x1)) rfl (fun _ e' => Qi Xt rfl rfl (m0.ext e').h0 rfl) ?_
 refine J7 rfl (ptr bd 0) <| X4 rfl (Zc rfl) <| X4 rfl (Zl (r := 0) Vg rfl Jj Uf rfl rfl) <| X4 rfl (Xr 2 2 Y6 Ze rfl) <| Yj (v := (u32 x2)) rfl (fun _ e' => Qi Xt rfl rfl (m0.ext e').h0 rfl) <| J7 rfl (ptr bd 0) <| X4 rfl (Zc rfl) <| X4 rfl (Zl (r := 0) Vg rfl Jj Uf rfl rfl) <| X4 rfl (Xr 3 3 Y6 Ze rfl) <| Yj (v := (u32 x3)) rfl (fun _ e' => Qi Xt rfl rfl (m0.ext e').h0 rfl) <| J7 rfl (ptr bd 0) <| X4 rfl (Zc rfl) ?_
 refine X4 rfl (Zl (r := 0) Vg rfl Jj Uf rfl rfl) <| X4 rfl (Xr 4 4 Y6 Ze rfl) <| Yj (v := (u32 x4)) rfl (fun _ e' => Qi Xt rfl rfl (m0.ext e').h0 rfl) <| J7 rfl (ptr bd 0) <| X4 rfl (Zc rfl) <| X4 rfl (Zl (r := 0) Vg rfl Jj Uf rfl rfl) <| X4 rfl (Xr 5 5 Y6 Ze rfl) <| Yj (v := (u32 x5)) rfl (fun _ e' => Qi Xt rfl rfl (m0.ext e').h0 rfl) <| J7 rfl (ptr bd 0) <| X4 rfl (Zc rfl) <| X4 rfl (Zl (r := 0) Vg rfl Jj Uf rfl rfl) <| X4 rfl (Xr 6 6 Y6 Ze rfl) ?_
 refine Yj (v := (u32 x6)) rfl (fun _ e' => Qi Xt rfl rfl (m0.ext e').h0 rfl) <| J7 rfl (ptr bd 0) <| X4 rfl (Zc rfl) <| X4 rfl (Zl (r := 0) Vg rfl Jj Uf rfl rfl) <| X4 rfl (Xr 7 7 Y6 Ze rfl) <| Yj (v := (u32 x7)) rfl (fun _ e' => Qi Xt rfl rfl (m0.ext e').h0 rfl) <| X4 rfl (Un (v := (u32 x0)) rfl) <| X4 rfl (Un (v := (u32 x1)) rfl) <| X4 rfl (Un (v := (u32 x2)) rfl) <| X4 rfl (Un (v := (u32 x3)) rfl) <| X4 rfl (Un (v := (u32 x4)) rfl) <| X4 rfl (Un (v := (u32 x5)) rfl) ?_
 refine X4 rfl (Un (v := (u32 x6)) rfl) <| Gf m0 fun w1 m1 => Zx (u32 x7) ?_
 refine rN (Qa (sR ?_))
 refine Zm vb <| U5 m1 (oc111 (Jz rfl) (Qrm vb l _ (aK hr m1) sD)) fun w2 m2 => Zm (i64 0) ?_
 refine rN (Qh ?_)
 refine Y1 (fun g wv => ∃ (k : Nat) (sa sz sc se sf sg sh sk : BitVec 32), (k ≤ 64) ∧ ([sa, sz, sc, se, sf, sg, sh, sk] = Qam (Dj l) k [x0, x1, x2, x3, x4, x5, x6, x7]) ∧ g 0 = (ptr bd 0) ∧ g 1 = vb ∧ g 4 = (u32 sa) ∧ g 5 = (u32 sz) ∧ g 6 = (u32 sc) ∧ g 7 = (u32 se) ∧ g 8 = (u32 sf) ∧ g 9 = (u32 sg) ∧ g 10 = (u32 sh) ∧ g 11 = (u32 sk) ∧ g 59 = (agg u32 (Dj l)) ∧ g 60 = (i64 (k : Int)) ∧ Mem wv R [(bd, .cells #[(u32 x0), (u32 x1), (u32 x2), (u32 x3), (u32 x4), (u32 x5), (u32 x6), (u32 x7), v, (u64 n)] 154 (0, 0))]) (fun g wv => (64 - RowKit.intOf (g 60)).toNat) ?_ ?_
 ·exact ⟨0, x0, x1, x2, x3, x4, x5, x6, x7, oM, rfl, rfl, rfl, rfl, rfl, rfl, rfl, rfl, rfl, rfl, rfl, rfl, rfl, m2⟩
 rintro fr4 w5 ⟨k, sa, sz, sc, se, sf, sg, sh, sk, hk1, hs, s0, s1, s4, s5, s6, s7, s8, s9, s10, s11, s59, s60, m5⟩
 have z60 := s60
 have z4 := s4
 have z5 := s5
 have z6 := s6
 have z7 := s7
 have z8 := s8
 have z9 := s9
 have z10 := s10
 have z11 := s11
 refine sR <| Qd (Xd (b := 64) s60 rfl) ?_
 refine rN (Qa ?_)
 refine Zz rfl (fun hc6 => ?_) (fun hc6 => ?_)
 ·
  have hc6p := of_decide_eq_true hc6
  refine Qo (Qc (Qa (Qh (sR ?_))))
  refine X9 s60 <| Qd (v := (u32 ((Dj l).getD k 0))) (Jt Gl Xt rfl Ze s59 s60 oM sD (Qu _ _ 0 sD)) <| Zx (i64 (k : Int)) <| Zx (u32 ((Dj l).getD k 0)) ?_
  refine rN (sR ?_)
  refine X9 s11 <| Zm (u32 ((Dj l).getD k 0)) <| Qd (Xx rfl rfl) <| Zm (i64 (k : Int)) <| Qd (Zj (r := k) oM Gl Ze rfl rfl oM sD) <| Qd (Qi Xt rfl rfl (m5.rest _ _ hTr) (Qu _ _ 0 sD)) <| Qd (Xx rfl rfl) <| X9 s8 <| X9 s9 <| Qd (Ew rfl rfl) <| X9 s8 <| Qd (Qkb rfl) ?_
  refine X9 s10 <| Qd (Ew rfl rfl) <| Qd (Jm rfl rfl) <| Qd (Xx rfl rfl) <| Tc rfl ?_
  refine rN (sR ?_)
  refine X9 rfl <| X9 s8 <| Vr (Qa4 (Xl rfl rfl) (Em sf _ _)) ?_
  rintro _ w7 ⟨rfl, rfl⟩
  refine X9 s8 <| Vr (Qa4 (Xl rfl rfl) (Em sf _ _)) ?_
  rintro _ w9 ⟨rfl, rfl⟩
  refine Qd (Jm rfl rfl) <| X9 s8 <| Vr (Qa4 (Xl rfl rfl) (Em sf _ _)) ?_
  rintro _ w11 ⟨rfl, rfl⟩
  refine Qd (Jm rfl rfl) <| Qd (Xx rfl rfl) <| Tc rfl ?_
  refine rN (sR ?_)
  refine X9 s4 <| X9 s5 <| Qd (Ew rfl rfl) <| X9 s4 <| X9 s6 <| Qd (Ew rfl rfl) <| Qd (Jm rfl rfl) <| X9 s5 <| X9 s6 <| Qd (Ew rfl rfl) <| Qd (Jm rfl rfl) <| Zx (u32 (((sa &&& sz) ^^^ (sa &&& sc)) ^^^ (sz &&& sc))) ?_
  refine rN (sR ?_)
  refine Zm (u32 (((sa &&& sz) ^^^ (sa &&& sc)) ^^^ (sz &&& sc))) <| X9 s4 <| Vr (Qa4 (Xl rfl rfl) (Em sa _ _)) ?_
  rintro _ w13 ⟨rfl, rfl⟩
  refine X9 s4 <| Vr (Qa4 (Xl rfl rfl) (Em sa _ _)) ?_
  rintro _ w15 ⟨rfl, rfl⟩
  refine Qd (Jm rfl rfl) <| X9 s4 <| Vr (Qa4 (Xl rfl rfl) (Em sa _ _)) ?_
  rintro _ w17 ⟨rfl, rfl⟩
  refine Qd (Jm rfl rfl) <| Qd (Xx rfl rfl) <| Tc rfl ?_
  refine rN (Qb ?_)
  refine X9 s10 <| X9 s9 <| X9 s8 <| X9 s7 <| X9 rfl <| Qd (Xx rfl rfl) <| X9 s6 <| X9 s5 <| X9 s4 <| X9 rfl <| X9 rfl <| Qd (Xx rfl rfl) ?_
  refine Zx (u32 sh) <| Zx (u32 sg) <| Zx (u32 sf) <| Tc rfl <| Zx (u32 sc) <| Zx (u32 sz) <| Zx (u32 sa) <| Tc rfl ?_
  refine Zp (Qe (Qb ?_))
  refine Qd (Zg (b := 1) s60 rfl oM oM) <| Zm (i64 ((k : Int) + 1)) <| rN ?_
  have hsn : [((((sk + ((Dj l).getD k 0)) + (F9.getD k 0)) + ((sf &&& sg) ^^^ ((~~~sf) &&& sh))) + (((Q8 sf ((-6) : Int)) ^^^ (Q8 sf ((-11) : Int))) ^^^ (Q8 sf ((-25) : Int)))) + ((((sa &&& sz) ^^^ (sa &&& sc)) ^^^ (sz &&& sc)) + (((Q8 sa ((-2) : Int)) ^^^ (Q8 sa ((-13) : Int))) ^^^ (Q8 sa ((-22) : Int)))), sa, sz, sc, se + ((((sk + ((Dj l).getD k 0)) + (F9.getD k 0)) + ((sf &&& sg) ^^^ ((~~~sf) &&& sh))) + (((Q8 sf ((-6) : Int)) ^^^ (Q8 sf ((-11) : Int))) ^^^ (Q8 sf ((-25) : Int)))), sf, sg, sh] = Qam (Dj l) (k + 1) [x0, x1, x2, x3, x4, x5, x6, x7] := by show _ = rnd _ _ (Qam (Dj l) k [x0, x1, x2, x3, x4, x5, x6, x7]); rw [← hs]; rfl
  exact ⟨⟨k + 1, (((((sk + ((Dj l).getD k 0)) + (F9.getD k 0)) + ((sf &&& sg) ^^^ ((~~~sf) &&& sh))) + (((Q8 sf ((-6) : Int)) ^^^ (Q8 sf ((-11) : Int))) ^^^ (Q8 sf ((-25) : Int)))) + ((((sa &&& sz) ^^^ (sa &&& sc)) ^^^ (sz &&& sc)) + (((Q8 sa ((-2) : Int)) ^^^ (Q8 sa ((-13) : Int))) ^^^ (Q8 sa ((-22) : Int))))), sa, sz, sc, (se + ((((sk + ((Dj l).getD k 0)) + (F9.getD k 0)) + ((sf &&& sg) ^^^ ((~~~sf) &&& sh))) + (((Q8 sf ((-6) : Int)) ^^^ (Q8 sf ((-11) : Int))) ^^^ (Q8 sf ((-25) : Int))))), sf, sg, sh, oM, hsn, s0, s1, rfl, rfl, rfl, rfl, rfl, rfl, rfl, rfl, s59, rfl, m5⟩, Uj rfl z60 oM oM⟩
 ·
  have hc6p := of_decide_eq_false hc6
  obtain rfl : k = 64 := by omega
  refine X3 ?_
  refine Qj (Qj (Xk ?_))
  refine sR <| X9 s4 <| X9 s5 <| X9 s6 <| X9 s7 <| X9 s8 <| X9 s9 <| X9 s10 <| X9 s11 <| Qd (V9 u32 [sa, sz, sc, se, sf, sg, sh, sk] Xb Uf Y6 Ze rfl rfl) <| Zm (i64 0) ?_
  refine rN (Gh ?_)
  refine Vk 9 ?_
  refine Zq (sR ?_)
  refine Qd (Jc 0 8) ?_
  refine rN (Qa ?_)
  refine Za rfl Yx ?_
  refine Qo (Qc (Qa (Qh (sR ?_))))
  refine Zm (i64 0) <| Qd (v := (u32 sa)) (Jt (i := 0) Y6 Xt rfl Ze rfl rfl oM sD (Qu _ _ 0 Ya)) <| Zx (i64 0) <| Zx (u32 sa) <| rN <| Xi (dl 10) 10 Xv <| Uh rfl s0 <| J7 rfl (i64 0) <| X4 rfl (Zc rfl) <| X4 rfl (Zl (r := 0) Vg rfl Jj Uf rfl rfl) <| X4 rfl (Xr 0 0 Y6 Ze rfl) <| Yj (v := (u32 x0)) rfl (fun _ e' => Qi Xt rfl rfl (m5.ext e').h0 rfl) ?_
  refine J7 rfl (u32 sa) <| X4 rfl (Xx rfl rfl) <| X4 rfl (Zc rfl) <| X4 rfl (Zl (r := 0) Vg rfl Jj Uf rfl rfl) <| Gf m5 fun w19 m19 => Qd (Xr 0 0 Y6 Ze rfl) <| Vd (Ui Ze rfl rfl (Xb _) m19.h0 Ya (.inl (aJ _))) ?_
  rintro _ w20 uq20
  have m20 : Mem _ _ [(bd, .cells #[(u32 (x0 + sa)), (u32 x1), (u32 x2), (u32 x3), (u32 x4), (u32 x5), (u32 x6), (u32 x7), v, (u64 n)] 154 (0, 0))] := m19.upd0 uq20
  refine Zp (Qe (Qb ?_))
  refine Qd (v := (i64 1)) (Yk 0 1) <| Zm (i64 1) ?_
  refine rN (Zq (sR ?_))
  refine Qd (Jc 1 8) ?_
  refine rN (Qa ?_)
  refine Za rfl Yx ?_
  refine Qo (Qc (Qa (Qh (sR ?_))))
  refine Zm (i64 1) <| Qd (v := (u32 sz)) (Jt (i := 1) Y6 Xt rfl Ze rfl rfl oM sD (Qu _ _ 0 Ya)) <| Zx (i64 1) <| Zx (u32 sz) <| rN <| Xi (dl 10) 10 Xv <| Uh rfl s0 <| J7 rfl (i64 1) <| X4 rfl (Zc rfl) <| X4 rfl (Zl (r := 0) Vg rfl Jj Uf rfl rfl) <| X4 rfl (Xr 1 1 Y6 Ze rfl) <| Yj (v := (u32 x1)) rfl (fun _ e' => Qi Xt rfl rfl (m20.ext e').h0 rfl) ?_
  refine J7 rfl (u32 sz) <| X4 rfl (Xx rfl rfl) <| X4 rfl (Zc rfl) <| X4 rfl (Zl (r := 0) Vg rfl Jj Uf rfl rfl) <| Gf m20 fun w21 m21 => Qd (Xr 1 1 Y6 Ze rfl) <| Vd (Ui Ze rfl rfl (Xb _) m21.h0 Ya (.inl (aJ _))) ?_
  rintro _ w22 uq22
  have m22 : Mem _ _ [(bd, .cells #[(u32 (x0 + sa)), (u32 (x1 + sz)), (u32 x2), (u32 x3), (u32 x4), (u32 x5), (u32 x6), (u32 x7), v, (u64 n)] 154 (0, 0))] := m21.upd0 uq22
  refine Zp (Qe (Qb ?_))
  refine Qd (v := (i64 2)) (Yk 1 1) <| Zm (i64 2) ?_
  refine rN (Zq (sR ?_))
  refine Qd (Jc 2 8) ?_
  refine rN (Qa ?_)
  refine Za rfl Yx ?_
  refine Qo (Qc (Qa (Qh (sR ?_))))
  refine Zm (i64 2) <| Qd (v := (u32 sc)) (Jt (i := 2) Y6 Xt rfl Ze rfl rfl oM sD (Qu _ _ 0 Ya)) <| Zx (i64 2) <| Zx (u32 sc) <| rN <| Xi (dl 10) 10 Xv <| Uh rfl s0 <| J7 rfl (i64 2) <| X4 rfl (Zc rfl) <| X4 rfl (Zl (r := 0) Vg rfl Jj Uf rfl rfl) <| X4 rfl (Xr 2 2 Y6 Ze rfl) <| Yj (v := (u32 x2)) rfl (fun _ e' => Qi Xt rfl rfl (m22.ext e').h0 rfl) ?_
  refine J7 rfl (u32 sc) <| X4 rfl (Xx rfl rfl) <| X4 rfl (Zc rfl) <| X4 rfl (Zl (r := 0) Vg rfl Jj Uf rfl rfl) <| Gf m22 fun w23 m23 => Qd (Xr 2 2 Y6 Ze rfl) <| Vd (Ui Ze rfl rfl (Xb _) m23.h0 Ya (.inl (aJ _))) ?_
  rintro _ w24 uq24
  have m24 : Mem _ _ [(bd, .cells #[(u32 (x0 + sa)), (u32 (x1 + sz)), (u32 (x2 + sc)), (u32 x3), (u32 x4), (u32 x5), (u32 x6), (u32 x7), v, (u64 n)] 154 (0, 0))] := m23.upd0 uq24
  refine Zp (Qe (Qb ?_))
  refine Qd (v := (i64 3)) (Yk 2 1) <| Zm (i64 3) ?_
  refine rN (Zq (sR ?_))
  refine Qd (Jc 3 8) ?_
  refine rN (Qa ?_)
  refine Za rfl Yx ?_
  refine Qo (Qc (Qa (Qh (sR ?_))))
  refine Zm (i64 3) <| Qd (v := (u32 se)) (Jt (i := 3) Y6 Xt rfl Ze rfl rfl oM sD (Qu _ _ 0 Ya)) <| Zx (i64 3) <| Zx (u32 se) <| rN <| Xi (dl 10) 10 Xv <| Uh rfl s0 <| J7 rfl (i64 3) <| X4 rfl (Zc rfl) <| X4 rfl (Zl (r := 0) Vg rfl Jj Uf rfl rfl) <| X4 rfl (Xr 3 3 Y6 Ze rfl) <| Yj (v := (u32 x3)) rfl (fun _ e' => Qi Xt rfl rfl (m24.ext e').h0 rfl) ?_
  refine J7 rfl (u32 se) <| X4 rfl (Xx rfl rfl) <| X4 rfl (Zc rfl) <| X4 rfl (Zl (r := 0) Vg rfl Jj Uf rfl rfl) <| Gf m24 fun w25 m25 => Qd (Xr 3 3 Y6 Ze rfl) <| Vd (Ui Ze rfl rfl (Xb _) m25.h0 Ya (.inl (aJ _))) ?_
  rintro _ w26 uq26
  have m26 : Mem _ _ [(bd, .cells #[(u32 (x0 + sa)), (u32 (x1 + sz)), (u32 (x2 + sc)), (u32 (x3 + se)), (u32 x4), (u32 x5), (u32 x6), (u32 x7), v, (u64 n)] 154 (0, 0))] := m25.upd0 uq26
  refine Zp (Qe (Qb ?_))
  refine Qd (v := (i64 4)) (Yk 3 1) <| Zm (i64 4) <| rN ?_
  refine CR.abs (fun g => g 0 = (ptr bd 0) ∧ g 1 = vb ∧ g 4 = (u32 sa) ∧ g 5 = (u32 sz) ∧ g 6 = (u32 sc) ∧ g 7 = (u32 se) ∧ g 8 = (u32 sf) ∧ g 9 = (u32 sg) ∧ g 10 = (u32 sh) ∧ g 11 = (u32 sk) ∧ g 16 = (i64 3) ∧ g 17 = (u32 se) ∧ g 59 = (agg u32 (Dj l)) ∧ g 60 = (i64 (64 : Int)) ∧ g 61 = (bl (decide ((64 : Int) < 64))) ∧ g 132 = (agg u32 ([sa, sz, sc, se, sf, sg, sh, sk])) ∧ g 133 = (i64 4) ∧ g 134 = (bl true) ∧ True) ⟨s0, s1, s4, s5, s6, s7, s8, s9, s10, s11, rfl, rfl, s59, s60, rfl, rfl, rfl, rfl, trivial⟩ ?_
  rintro fr27 ⟨s0, s1, s4, s5, s6, s7, s8, s9, s10, s11, s16, s17, s59, s60, s61, s132, s133, s134, _⟩
  refine Zq (sR ?_)
  refine Qd (Xd (a := 4) (b := 8) s133 rfl) ?_
  refine rN (Qa ?_)
  refine Za rfl Yx ?_
  refine Qo (Qc (Qa (Qh (sR ?_))))
  refine X9 s133 <| Qd (v := (u32 sf)) (Jt (i := 4) Y6 Xt rfl Ze s132 s133 oM sD (Qu _ _ 0 Ya)) <| Zx (i64 4) <| Zx (u32 sf) <| rN <| Xi (dl 10) 10 Xv <| Uh rfl s0 <| J7 rfl (i64 4) <| X4 rfl (Zc rfl) <| X4 rfl (Zl (r := 0) Vg rfl Jj Uf rfl rfl) <| X4 rfl (Xr 4 4 Y6 Ze rfl) <| Yj (v := (u32 x4)) rfl (fun _ e' => Qi Xt rfl rfl (m26.ext e').h0 rfl) ?_
  refine J7 rfl (u32 sf) <| X4 rfl (Xx rfl rfl) <| X4 rfl (Zc rfl) <| X4 rfl (Zl (r := 0) Vg rfl Jj Uf rfl rfl) <| Gf m26 fun w28 m28 => Qd (Xr 4 4 Y6 Ze rfl) <| Vd (Ui Ze rfl rfl (Xb _) m28.h0 Ya (.inl (aJ _))) ?_
  rintro _ w29 uq29
  have m29 : Mem _ _ [(bd, .cells #[(u32 (x0 + sa)), (u32 (x1 + sz)), (u32 (x2 + sc)), (u32 (x3 + se)), (u32 (x4 + sf)), (u32 x5), (u32 x6), (u32 x7), v, (u64 n)] 154 (0, 0))] := m28.upd0 uq29
  refine Zp (Qe (Qb ?_))
  refine Qd (v := (i64 5)) (Zg (a := 4) (b := 1) s133 rfl oM oM) <| Zm (i64 5) ?_
  refine rN (Zq (sR ?_))
  refine Qd (Jc 5 8) ?_
  refine rN (Qa ?_)
  refine Za rfl Yx ?_
  refine Qo (Qc (Qa (Qh (sR ?_))))
  refine Zm (i64 5) <| Qd (v := (u32 sg)) (Jt (i := 5) Y6 Xt rfl Ze s132 rfl oM sD (Qu _ _ 0 Ya)) <| Zx (i64 5) <| Zx (u32 sg) <| rN <| Xi (dl 10) 10 Xv <| Uh rfl s0 <| J7 rfl (i64 5) <| X4 rfl (Zc rfl) <| X4 rfl (Zl (r := 0) Vg rfl Jj Uf rfl rfl) <| X4 rfl (Xr 5 5 Y6 Ze rfl) <| Yj (v := (u32 x5)) rfl (fun _ e' => Qi Xt rfl rfl (m29.ext e').h0 rfl) ?_
  refine J7 rfl (u32 sg) <| X4 rfl (Xx rfl rfl) <| X4 rfl (Zc rfl) <| X4 rfl (Zl (r := 0) Vg rfl Jj Uf rfl rfl) <| Gf m29 fun w30 m30 => Qd (Xr 5 5 Y6 Ze rfl) <| Vd (Ui Ze rfl rfl (Xb _) m30.h0 Ya (.inl (aJ _))) ?_
  rintro _ w31 uq31
  have m31 : Mem _ _ [(bd, .cells #[(u32 (x0 + sa)), (u32 (x1 + sz)), (u32 (x2 + sc)), (u32 (x3 + se)), (u32 (x4 + sf)), (u32 (x5 + sg)), (u32 x6), (u32 x7), v, (u64 n)] 154 (0, 0))] := m30.upd0 uq31
  refine Zp (Qe (Qb ?_))
  refine Qd (v := (i64 6)) (Yk 5 1) <| Zm (i64 6) ?_
  refine rN (Zq (sR ?_))
  refine Qd (Jc 6 8) ?_
  refine rN (Qa ?_)
  refine Za rfl Yx ?_
  refine Qo (Qc (Qa (Qh (sR ?_))))
  refine Zm (i64 6) <| Qd (v := (u32 sh)) (Jt (i := 6) Y6 Xt rfl Ze s132 rfl oM sD (Qu _ _ 0 Ya)) <| Zx (i64 6) <| Zx (u32 sh) <| rN <| Xi (dl 10) 10 Xv <| Uh rfl s0 <| J7 rfl (i64 6) <| X4 rfl (Zc rfl) <| X4 rfl (Zl (r := 0) Vg rfl Jj Uf rfl rfl) <| X4 rfl (Xr 6 6 Y6 Ze rfl) <| Yj (v := (u32 x6)) rfl (fun _ e' => Qi Xt rfl rfl (m31.ext e').h0 rfl) ?_
  refine J7 rfl (u32 sh) <| X4 rfl (Xx rfl rfl) <| X4 rfl (Zc rfl) <| X4 rfl (Zl (r := 0) Vg rfl Jj Uf rfl rfl) <| Gf m31 fun w32 m32 => Qd (Xr 6 6 Y6 Ze rfl) <| Vd (Ui Ze rfl rfl (Xb _) m32.h0 Ya (.inl (aJ _))) ?_
  rintro _ w33 uq33
  have m33 : Mem _ _ [(bd, .cells #[(u32 (x0 + sa)), (u32 (x1 + sz)), (u32 (x2 + sc)), (u32 (x3 + se)), (u32 (x4 + sf)), (u32 (x5 + sg)), (u32 (x6 + sh)), (u32 x7), v, (u64 n)] 154 (0, 0))] := m32.upd0 uq33
  refine Zp (Qe (Qb ?_))
  refine Qd (v := (i64 7)) (Yk 6 1) <| Zm (i64 7) ?_
  refine rN (Zq (sR ?_))
  refine Qd (Jc 7 8) ?_
  refine rN (Qa ?_)
  refine Za rfl Yx ?_
  refine Qo (Qc (Qa (Qh (sR ?_))))
  refine Zm (i64 7) <| Qd (v := (u32 sk)) (Jt (i := 7) Y6 Xt rfl Ze s132 rfl oM sD (Qu _ _ 0 Ya)) <| Zx (i64 7) <| Zx (u32 sk) <| rN <| Xi (dl 10) 10 Xv <| Uh rfl s0 <| J7 rfl (i64 7) <| X4 rfl (Zc rfl) <| X4 rfl (Zl (r := 0) Vg rfl Jj Uf rfl rfl) <| X4 rfl (Xr 7 7 Y6 Ze rfl) <| Yj (v := (u32 x7)) rfl (fun _ e' => Qi Xt rfl rfl (m33.ext e').h0 rfl) ?_
  refine J7 rfl (u32 sk) <| X4 rfl (Xx rfl rfl) <| X4 rfl (Zc rfl) <| X4 rfl (Zl (r := 0) Vg rfl Jj Uf rfl rfl) <| Gf m33 fun w34 m34 => Qd (Xr 7 7 Y6 Ze rfl) <| Vd (Ui Ze rfl rfl (Xb _) m34.h0 Ya (.inl (aJ _))) ?_
  rintro _ w35 uq35
  have m35 : Mem _ _ [(bd, .cells #[(u32 (x0 + sa)), (u32 (x1 + sz)), (u32 (x2 + sc)), (u32 (x3 + se)), (u32 (x4 + sf)), (u32 (x5 + sg)), (u32 (x6 + sh)), (u32 (x7 + sk)), v, (u64 n)] 154 (0, 0))] := m34.upd0 uq35
  refine Zp (Qe (Qb ?_))
  refine Qd (v := (i64 8)) (Yk 7 1) <| Zm (i64 8) ?_
  refine rN (Zq (sR ?_))
  refine Qd (Jc 8 8) ?_
  refine rN (Qa ?_)
  refine Ja rfl Yx <| X3 ?_
  refine Qj (Qj (Xk ?_))
  refine La [] trivial ?_
  exact ⟨_, _, _, _, _, _, _, _, by rw [Qhu, ← hs]; rfl, m35⟩
end Go.Proofs.YtkmiemlpfkfiiaaDoor
