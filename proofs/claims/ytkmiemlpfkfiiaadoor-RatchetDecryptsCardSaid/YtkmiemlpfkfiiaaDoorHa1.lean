/- Contracts: hash, first part. Conditions: none beyond those that each theorem states. -/
import Derived.Test.YtkmiemlpfkfiiaaDoorTab
import Derived.Test.YtkmiemlpfkfiiaaDoorFwM
import Derived.Test.YtkmiemlpfkfiiaaDoorSt6
namespace Go.Proofs.YtkmiemlpfkfiiaaDoor
open Tryd
set_option linter.unusedVariables false
set_option linter.unusedSimpArgs false
def Qcd : List (BitVec 32) := [1779033703#32, 3144134277#32, 1013904242#32, 2773480762#32, 1359893119#32, 2600822924#32, 528734635#32, 1541459225#32]
def Ed : List (BitVec 32) := [1116352408#32, 1899447441#32, 3049323471#32, 3921009573#32, 961987163#32, 1508970993#32, 2453635748#32, 2870763221#32, 3624381080#32, 310598401#32, 607225278#32, 1426881987#32, 1925078388#32, 2162078206#32, 2614888103#32, 3248222580#32, 3835390401#32, 4022224774#32, 264347078#32, 604807628#32, 770255983#32, 1249150122#32, 1555081692#32, 1996064986#32, 2554220882#32, 2821834349#32, 2952996808#32, 3210313671#32, 3336571891#32, 3584528711#32, 113926993#32, 338241895#32, 666307205#32, 773529912#32, 1294757372#32, 1396182291#32, 1695183700#32, 1986661051#32, 2177026350#32, 2456956037#32, 2730485921#32, 2820302411#32, 3259730800#32, 3345764771#32, 3516065817#32, 3600352804#32, 4094571909#32, 275423344#32, 430227734#32, 506948616#32, 659060556#32, 883997877#32, 958139571#32, 1322822218#32, 1537002063#32, 1747873779#32, 1955562222#32, 2024104815#32, 2227730452#32, 2361852424#32, 2428436474#32, 2756734187#32, 3204031479#32, 3329325298#32]
@[simp] theorem roundL_length : Ed.length = 64 := rfl
structure Tabs (m : Nat → Option Obj) : Prop where
 start : ∃ E fz, m 0 = some (.cells (cl u32 [1779033703#32, 3144134277#32, 1013904242#32, 2773480762#32, 1359893119#32, 2600822924#32, 528734635#32, 1541459225#32]) E fz)
 round : ∃ E fz, m 1 = some (.cells (cl u32 Ed) E fz)
theorem Tabs.mono {m m' : Nat → Option Obj} (h : Tabs m) (hm : ∀ b o, m b = some o → m' b = some o) : Tabs m' :=
 ⟨let ⟨E, fz, e⟩ := h.start; ⟨E, fz, hm _ _ e⟩, let ⟨E, fz, e⟩ := h.round; ⟨E, fz, hm _ _ e⟩⟩
def be4 (a b c d : BitVec 8) : BitVec 32 := (((0#32 <<< 8 ||| a.setWidth 32) <<< 8 ||| b.setWidth 32) <<< 8 ||| c.setWidth 32) <<< 8 ||| d.setWidth 32
def Qdt (l : Z8) (w : List (BitVec 32)) (k : Nat) : BitVec 32 :=
 if k < 16 then be4 (l.getD (4 * k) 0) (l.getD (4 * k + 1) 0) (l.getD (4 * k + 2) 0) (l.getD (4 * k + 3) 0)
 else (w.getD (k - 16) 0 + w.getD (k - 7) 0) + ((Q8 (w.getD (k - 15) 0) (-7) ^^^ Q8 (w.getD (k - 15) 0) (-18)) ^^^ (w.getD (k - 15) 0) >>> 3)
  + ((Q8 (w.getD (k - 2) 0) (-17) ^^^ Q8 (w.getD (k - 2) 0) (-19)) ^^^ (w.getD (k - 2) 0) >>> 10)
def Wx (l : Z8) : Nat → List (BitVec 32)
 | 0 => List.replicate 64 0
 | k + 1 => (Wx l k).set k (Qdt l (Wx l k) k)
@[simp] theorem Qam (l : Z8) (k : Nat) : (Wx l k).length = 64 := by
 induction k with
 | zero => simp [Wx]
 | succ k ih => simp [Wx, ih]
theorem Qkc (l : Z8) : ∀ (k j : Nat), k ≤ j → (Wx l k).getD j 0 = 0 := by
 intro k
 induction k with
 | zero =>
  intro j _
  simp only [Wx, List.getD_eq_getElem?_getD, List.getElem?_replicate]
  split <;> rfl
 | succ k ih =>
  intro j h
  have := ih j oM
  simp only [Wx, List.getD_eq_getElem?_getD, List.getElem?_set] at this ⊢
  rw [if_neg oM]; exact this
theorem Lr {α : Type} (l : List α) (k : Nat) (a z : α) (h : k < l.length) : (l.set k a).getD k z = a := by simp [List.getD_eq_getElem?_getD, h]
theorem Qhe (l : Z8) (k : Nat) (h : k < 16) (a b c d : BitVec 8) (ha : a = l.getD (4 * k) 0) (hb : b = l.getD (4 * k + 1) 0) (hc : c = l.getD (4 * k + 2) 0) (hd : d = l.getD (4 * k + 3) 0) (w : List (BitVec 32)) (hw : w = Wx l k) :
  (((w.set k (w.getD k 0 <<< 8 ||| a.setWidth 32)).set k ((w.set k (w.getD k 0 <<< 8 ||| a.setWidth 32)).getD k 0 <<< 8 ||| b.setWidth 32)).set k
   (((w.set k (w.getD k 0 <<< 8 ||| a.setWidth 32)).set k ((w.set k (w.getD k 0 <<< 8 ||| a.setWidth 32)).getD k 0 <<< 8 ||| b.setWidth 32)).getD k 0 <<< 8 ||| c.setWidth 32)).set k
   ((((w.set k (w.getD k 0 <<< 8 ||| a.setWidth 32)).set k ((w.set k (w.getD k 0 <<< 8 ||| a.setWidth 32)).getD k 0 <<< 8 ||| b.setWidth 32)).set k
   (((w.set k (w.getD k 0 <<< 8 ||| a.setWidth 32)).set k ((w.set k (w.getD k 0 <<< 8 ||| a.setWidth 32)).getD k 0 <<< 8 ||| b.setWidth 32)).getD k 0 <<< 8 ||| c.setWidth 32)).getD k 0 <<< 8 ||| d.setWidth 32) = Wx l (k + 1) := by
 subst hw ha hb hc hd
 simp only [Wx, List.set_set]
 rw [Lr _ _ _ _ (by simp; omega), Lr _ _ _ _ (by simp; omega), Lr _ _ _ _ (by simp; omega), Qkc l k k (Nat.le_refl _)]
 unfold Qdt
 rw [if_pos h]; rfl
theorem Qop (l : Z8) (k : Nat) (h : ¬ k < 16) (h2 : k < 64) (w : List (BitVec 32)) (hw : w = Wx l k) (A B C : BitVec 32)
  (hA : A = w.getD (k - 16) 0 + w.getD (k - 7) 0) (hB : B = (Q8 (w.getD (k - 15) 0) (-7) ^^^ Q8 (w.getD (k - 15) 0) (-18)) ^^^ (w.getD (k - 15) 0) >>> 3)
  (hC : C = (Q8 (w.getD (k - 2) 0) (-17) ^^^ Q8 (w.getD (k - 2) 0) (-19)) ^^^ (w.getD (k - 2) 0) >>> 10) :
  ((w.set k A).set k ((w.set k A).getD k 0 + B)).set k (((w.set k A).set k ((w.set k A).getD k 0 + B)).getD k 0 + C) = Wx l (k + 1) := by
 subst hw hA hB hC
 simp only [Wx, List.set_set]
 rw [Lr _ _ _ _ (by simp; omega), Lr _ _ _ _ (by simp; omega)]
 unfold Qdt
 rw [if_neg h]
theorem Tt (l : Z8) (k : Nat) (h : 4 * k + 4 ≤ l.length) : (l.drop (4 * (k : Int)).toNat).take ((4 * (k : Int) + 4).toNat - (4 * (k : Int)).toNat) = [l.getD (4 * k) 0, l.getD (4 * k + 1) 0, l.getD (4 * k + 2) 0, l.getD (4 * k + 3) 0] := by
 have e1 : (4 * (k : Int)).toNat = 4 * k := by omega
 have e2 : (4 * (k : Int) + 4).toNat - (4 * (k : Int)).toNat = 4 := by omega
 rw [e2, e1]
 refine List.ext_getElem (by simp; omega) fun i h1 h2 => ?_
 simp only [List.length_cons, List.length_nil] at h2
 have : i = 0 ∨ i = 1 ∨ i = 2 ∨ i = 3 := by omega
 rcases this with rfl | rfl | rfl | rfl <;> simp [List.getD_eq_getElem?_getD] <;> rw [List.getElem?_eq_getElem oM] <;> rfl
def Du (l : Z8) : List (BitVec 32) := Wx l 64
@[simp] theorem schedP_length (l : Z8) : (Du l).length = 64 := Qam l 64
def rnd (w t : BitVec 32) : List (BitVec 32) → List (BitVec 32)
 | [a, z, c, e, f, g, h, k] =>
  let t1 := (((k + w) + t) + ((f &&& g) ^^^ (~~~f &&& h))) + ((Q8 f (-6) ^^^ Q8 f (-11)) ^^^ Q8 f (-25))
  let u := (((a &&& z) ^^^ (a &&& c)) ^^^ (z &&& c)) + ((Q8 a (-2) ^^^ Q8 a (-13)) ^^^ Q8 a (-22))
  [t1 + u, a, z, c, e + t1, f, g, h]
 | l => l
def Qap (wl : List (BitVec 32)) : Nat → List (BitVec 32) → List (BitVec 32)
 | 0, s => s
 | k + 1, s => rnd (wl.getD k 0) (Ed.getD k 0) (Qap wl k s)
def Qhc (h : List (BitVec 32)) (l : Z8) : List (BitVec 32) := List.zipWith (· + ·) h (Qap (Du l) 64 h)
theorem c_hnew  (w0 : World)  (hT : Tabs (Y8 w0)) : X0 prog 84 #[] w0 (fun r w1 => ∃ b, r = ptr b 0 ∧ Mem w1 (Qr w0) [(b, .cells #[(u32 1779033703#32), (u32 3144134277#32), (u32 1013904242#32), (u32 2773480762#32), (u32 1359893119#32), (u32 2600822924#32), (u32 528734635#32), (u32 1541459225#32), Wl, (u64 0#64)] 154 (0, 0))]) := by
 refine Qy (args := []) func84 rfl ntmps84 results84 rfl ?_
 have m0 : Mem w0 (Qr w0) [] := Mem.of_world w0
 obtain ⟨Es, fzs, hTs⟩ := hT.start
 obtain ⟨Er, fzr, hTr⟩ := hT.round
 refine sR <| Zx (Value.pointer none) ?_
 refine rN (sR ?_)
 refine Qd (Qo Y5 rfl Uj rfl (m0.rest _ _ hTs) sZ) <| Qd (Wv (c := #[(u32 1779033703#32), (u32 3144134277#32), (u32 1013904242#32), (u32 2773480762#32), (u32 1359893119#32), (u32 2600822924#32), (u32 528734635#32), (u32 1541459225#32), Wl, (u64 0)]) (pl := [(0, 8), (8, 1), (9, 1)]) Qir Vh Xo (Jq (i := 0) (v := (agg u32 ([1779033703#32, 3144134277#32, 1013904242#32, 2773480762#32, 1359893119#32, 2600822924#32, 528734635#32, 1541459225#32]))) (cs := (cl u32 ([1779033703#32, 3144134277#32, 1013904242#32, 2773480762#32, 1359893119#32, 2600822924#32, 528734635#32, 1541459225#32]))) rfl rfl Vq) Xo) <| Y9 (Us (cs := #[(u32 1779033703#32), (u32 3144134277#32), (u32 1013904242#32), (u32 2773480762#32), (u32 1359893119#32), (u32 2600822924#32), (u32 528734635#32), (u32 1541459225#32), Wl, (u64 0)]) m0 rfl) fun w1 b3 m1 => Zx (ptr b3 0) ?_
 refine rN (Zz ?_)
 refine Qp [(ptr b3 0)] ⟨rfl, trivial⟩ ?_
 exact ⟨b3, rfl, m1⟩
theorem Qpy (vb : Value) (l : Z8) (w0 : World)  (hr : Rd (Y8 w0) u8 vb l) (hl : l.length = 64) : X0 prog 111 #[vb] w0 (fun r w1 => r = (agg u32 (Du l)) ∧ Ext w0 w1) := by
 refine Qy (args := [vb]) func111 rfl ntmps111 results111 rfl ?_
 have m0 : Mem w0 (Qr w0) [] := Mem.of_world w0
 refine sR <| Y9 (Q7 m0 Qbw) fun w1 b2 m1 => ?_
 refine rN (Qa (sR ?_))
 refine Zm (i64 0) ?_
 refine rN (Qh ?_)
 refine Y1 (fun g wv => ∃ (k : Nat) (wl : List (BitVec 32)), (k ≤ 64) ∧ (wl = Wx l k) ∧ g 0 = vb ∧ g 2 = (ptr b2 0) ∧ g 8 = (i64 (k : Int)) ∧ Mem wv (Qr w0) [(b2, .cells (cl u32 wl) 160 (0, 0))]) (fun g wv => (64 - RowKit.intOf (g 8)).toNat) ?_ ?_
 ·exact ⟨0, _, oM, rfl, rfl, rfl, rfl, m1⟩
 rintro fr2 w3 ⟨k, wl, hk1, hw, s0, s2, s8, m3⟩
 have z8 := s8
 have hwl : wl.length = 64 := by rw [hw]; simp
 refine sR <| Qd (Xa (b := 64) s8 rfl) ?_
 refine rN (Qa ?_)
 refine Zy rfl (fun hc4 => ?_) (fun hc4 => ?_)
 ·
  have hc4p := of_decide_eq_true hc4
  refine Qn (Qc (Qa (Qh (sR ?_))))
  refine Yb s8 <| Zx (i64 (k : Int)) ?_
  refine rN (Qa (sR ?_))
  refine Zm (i64 (k : Int)) <| Qd (Xa (b := 16) rfl rfl) <| rN ?_
  refine Zy rfl (fun hc5 => ?_) (fun hc5 => ?_)
  ·
   have hc5p := of_decide_eq_true hc5
   refine Qa (sR ?_)
   refine Yb s0 <| Zm (i64 (k : Int)) <| Qd (Kv (a := 4) rfl rfl oM oM) <| Zm (i64 (k : Int)) <| Qd (Kv (a := 4) rfl rfl oM oM) <| Qd (Zf (b := 4) rfl rfl oM oM) <| Qd (Y6 (i := 4 * (k : Int)) (j := 4 * (k : Int) + 4) (Rd.ofRest hr m3) Zo Yw rfl (Yd (k := .i64) (i := 4 * (k : Int)) rfl) (Yd (k := .i64) (i := 4 * (k : Int) + 4) rfl) oM oM oM) <| Qd (Yk (l := [l.getD (4 * k) 0, l.getD (4 * k + 1) 0, l.getD (4 * k + 2) 0, l.getD (4 * k + 3) 0]) (Rd.cast (Rd.sub (Rd.ofRest hr m3) oM oM oM) (Tt l k oM)) Zo rfl) <| Zm (i64 0) ?_
   refine rN (Qh ?_)
   refine Vo 5 ?_
   refine Zq (sR ?_)
   refine Qd (Jd 0 4) ?_
   refine rN (Qa ?_)
   refine Q9 rfl Jb ?_
   refine Qn (Qc (Qa (Qh (sR ?_))))
   refine Qd (Zt (i := 0) (Rd.cast (Rd.sub (Rd.ofRest hr m3) oM oM oM) (Tt l k oM)) Zo Yw rfl rfl oM Ya) <| Qd (v := (u8 (l.getD (4 * k) 0))) (X5 (l := [l.getD (4 * k) 0, l.getD (4 * k + 1) 0, l.getD (4 * k + 2) 0, l.getD (4 * k + 3) 0]) (i := 0) (dflt := 0) (Rd.cast (Rd.sub (Rd.ofRest hr m3) oM oM oM) (Tt l k oM)) Vs rfl oM Ya rfl) <| Zx (u8 (l.getD (4 * k) 0)) ?_
   refine rN (Qb ?_)
   refine Zm (i64 (k : Int)) <| Zm (i64 (k : Int)) <| Qd (Zl (r := k) oM Gm Ze s2 rfl oM sD) <| Qd (Qi Xv rfl rfl m3.h0 (Qu _ _ 0 sD)) <| Qd (Fz (b := 8) rfl rfl oM) <| Zm (u8 (l.getD (4 * k) 0)) <| Qd (Ku ⟨_, Vs⟩ Xv rfl) <| Qd (Dz rfl rfl) <| Qd (Zl (r := k) oM Gm Ze s2 rfl oM sD) <| Ye m3 (Xx (f := u32) (a := ((wl.getD k 0) <<< 8) ||| ((l.getD (4 * k) 0).setWidth 32)) Xb Ze rfl rfl m3.h0 sD (.inl (Nat.zero_le _))) fun w6 m6 => ?_
   refine Zp (Qe (Qb ?_))
   refine Qd (v := (i64 1)) (Yo 0 1) <| Zm (i64 1) ?_
   refine rN (Zq (sR ?_))
   refine Qd (Jd 1 4) ?_
   refine rN (Qa ?_)
   refine Q9 rfl Jb ?_
   refine Qn (Qc (Qa (Qh (sR ?_))))
   refine Qd (Zt (i := 1) (Rd.cast (Rd.sub (Rd.ofRest hr m6) oM oM oM) (Tt l k oM)) Zo Yw rfl rfl oM Ya) <| Qd (v := (u8 (l.getD (4 * k + 1) 0))) (X5 (l := [l.getD (4 * k) 0, l.getD (4 * k + 1) 0, l.getD (4 * k + 2) 0, l.getD (4 * k + 3) 0]) (i := 1) (dflt := 0) (Rd.cast (Rd.sub (Rd.ofRest hr m6) oM oM oM) (Tt l k oM)) Vs rfl oM Ya rfl) <| Zx (u8 (l.getD (4 * k + 1) 0)) ?_
   refine rN (Qb ?_)
   refine Zm (i64 (k : Int)) <| Zm (i64 (k : Int)) <| Qd (Zl (r := k) oM Gm Ze s2 rfl oM sD) <| Qd (Qi Xv rfl rfl m6.h0 (Qu _ _ 0 sD)) <| Qd (Fz (b := 8) rfl rfl oM) <| Zm (u8 (l.getD (4 * k + 1) 0)) <| Qd (Ku ⟨_, Vs⟩ Xv rfl) <| Qd (Dz rfl rfl) <| Qd (Zl (r := k) oM Gm Ze s2 rfl oM sD) <| Ye m6 (Xx (f := u32) (a := (((wl.set k (((wl.getD k 0) <<< 8) ||| ((l.getD (4 * k) 0).setWidth 32))).getD k 0) <<< 8) ||| ((l.getD (4 * k + 1) 0).setWidth 32)) Xb Ze rfl rfl m6.h0 sD (.inl (Nat.zero_le _))) fun w7 m7 => ?_
   refine Zp (Qe (Qb ?_))
   refine Qd (v := (i64 2)) (Yo 1 1) <| Zm (i64 2) ?_
   refine rN (Zq (sR ?_))
   refine Qd (Jd 2 4) ?_
   refine rN (Qa ?_)
   refine Q9 rfl Jb ?_
   refine Qn (Qc (Qa (Qh (sR ?_))))
   refine Qd (Zt (i := 2) (Rd.cast (Rd.sub (Rd.ofRest hr m7) oM oM oM) (Tt l k oM)) Zo Yw rfl rfl oM Ya) <| Qd (v := (u8 (l.getD (4 * k + 2) 0))) (X5 (l := [l.getD (4 * k) 0, l.getD (4 * k + 1) 0, l.getD (4 * k + 2) 0, l.getD (4 * k + 3) 0]) (i := 2) (dflt := 0) (Rd.cast (Rd.sub (Rd.ofRest hr m7) oM oM oM) (Tt l k oM)) Vs rfl oM Ya rfl) <| Zx (u8 (l.getD (4 * k + 2) 0)) ?_
   refine rN (Qb ?_)
   refine Zm (i64 (k : Int)) <| Zm (i64 (k : Int)) <| Qd (Zl (r := k) oM Gm Ze s2 rfl oM sD) <| Qd (Qi Xv rfl rfl m7.h0 (Qu _ _ 0 sD)) <| Qd (Fz (b := 8) rfl rfl oM) <| Zm (u8 (l.getD (4 * k + 2) 0)) <| Qd (Ku ⟨_, Vs⟩ Xv rfl) <| Qd (Dz rfl rfl) <| Qd (Zl (r := k) oM Gm Ze s2 rfl oM sD) <| Ye m7 (Xx (f := u32) (a := ((((wl.set k (((wl.getD k 0) <<< 8) ||| ((l.getD (4 * k) 0).setWidth 32))).set k ((((wl.set k (((wl.getD k 0) <<< 8) ||| ((l.getD (4 * k) 0).setWidth 32))).getD k 0) <<< 8) ||| ((l.getD (4 * k + 1) 0).setWidth 32))).getD k 0) <<< 8) ||| ((l.getD (4 * k + 2) 0).setWidth 32)) Xb Ze rfl rfl m7.h0 sD (.inl (Nat.zero_le _))) fun w8 m8 => ?_
   refine Zp (Qe (Qb ?_))
   refine Qd (v := (i64 3)) (Yo 2 1) <| Zm (i64 3) ?_
   refine rN (Zq (sR ?_))
   refine Qd (Jd 3 4) ?_
   refine rN (Qa ?_)
   refine Q9 rfl Jb ?_
   refine Qn (Qc (Qa (Qh (sR ?_))))
   refine Qd (Zt (i := 3) (Rd.cast (Rd.sub (Rd.ofRest hr m8) oM oM oM) (Tt l k oM)) Zo Yw rfl rfl oM Ya) <| Qd (v := (u8 (l.getD (4 * k + 3) 0))) (X5 (l := [l.getD (4 * k) 0, l.getD (4 * k + 1) 0, l.getD (4 * k + 2) 0, l.getD (4 * k + 3) 0]) (i := 3) (dflt := 0) (Rd.cast (Rd.sub (Rd.ofRest hr m8) oM oM oM) (Tt l k oM)) Vs rfl oM Ya rfl) <| Zx (u8 (l.getD (4 * k + 3) 0)) ?_
   refine rN (Qb ?_)
   refine Zm (i64 (k : Int)) <| Zm (i64 (k : Int)) <| Qd (Zl (r := k) oM Gm Ze s2 rfl oM sD) <| Qd (Qi Xv rfl rfl m8.h0 (Qu _ _ 0 sD)) <| Qd (Fz (b := 8) rfl rfl oM) <| Zm (u8 (l.getD (4 * k + 3) 0)) <| Qd (Ku ⟨_, Vs⟩ Xv rfl) <| Qd (Dz rfl rfl) <| Qd (Zl (r := k) oM Gm Ze s2 rfl oM sD) <| Ye m8 (Xx (f := u32) (a := (((((wl.set k (((wl.getD k 0) <<< 8) ||| ((l.getD (4 * k) 0).setWidth 32))).set k ((((wl.set k (((wl.getD k 0) <<< 8) ||| ((l.getD (4 * k) 0).setWidth 32))).getD k 0) <<< 8) ||| ((l.getD (4 * k + 1) 0).setWidth 32))).set k (((((wl.set k (((wl.getD k 0) <<< 8) ||| ((l.getD (4 * k) 0).setWidth 32))).set k ((((wl.set k (((wl.getD k 0) <<< 8) ||| ((l.getD (4 * k) 0).setWidth 32))).getD k 0) <<< 8) ||| ((l.getD (4 * k + 1) 0).setWidth 32))).getD k 0) <<< 8) ||| ((l.getD (4 * k + 2) 0).setWidth 32))).getD k 0) <<< 8) ||| ((l.getD (4 * k + 3) 0).setWidth 32)) Xb Ze rfl rfl m8.h0 sD (.inl (Nat.zero_le _))) fun w9 m9 => ?_
   refine Zp (Qe (Qb ?_))
   refine Qd (v := (i64 4)) (Yo 3 1) <| Zm (i64 4) ?_
   refine rN (Zq (sR ?_))
   refine Qd (Jd 4 4) ?_
   refine rN (Qa ?_)
   refine Ja rfl Jb <| X4 ?_
   refine Qj (Qj (Xi ?_))
   refine X4 ?_
   refine Qj (Xi ?_)
   refine Qb <| Qd (Zf (b := 1) s8 rfl oM oM) <| Zm (i64 ((k : Int) + 1)) <| rN ?_
   have hwn : (((wl.set k (((wl.getD k 0) <<< 8) ||| ((l.getD (4 * k) 0).setWidth 32))).set k ((((wl.set k (((wl.getD k 0) <<< 8) ||| ((l.getD (4 * k) 0).setWidth 32))).getD k 0) <<< 8) ||| ((l.getD (4 * k + 1) 0).setWidth 32))).set k (((((wl.set k (((wl.getD k 0) <<< 8) ||| ((l.getD (4 * k) 0).setWidth 32))).set k ((((wl.set k (((wl.getD k 0) <<< 8) ||| ((l.getD (4 * k) 0).setWidth 32))).getD k 0) <<< 8) ||| ((l.getD (4 * k + 1) 0).setWidth 32))).getD k 0) <<< 8) ||| ((l.getD (4 * k + 2) 0).setWidth 32))).set k ((((((wl.set k (((wl.getD k 0) <<< 8) ||| ((l.getD (4 * k) 0).setWidth 32))).set k ((((wl.set k (((wl.getD k 0) <<< 8) ||| ((l.getD (4 * k) 0).setWidth 32))).getD k 0) <<< 8) ||| ((l.getD (4 * k + 1) 0).setWidth 32))).set k (((((wl.set k (((wl.getD k 0) <<< 8) ||| ((l.getD (4 * k) 0).setWidth 32))).set k ((((wl.set k (((wl.getD k 0) <<< 8) ||| ((l.getD (4 * k) 0).setWidth 32))).getD k 0) <<< 8) ||| ((l.getD (4 * k + 1) 0).setWidth 32))).getD k 0) <<< 8) ||| ((l.getD (4 * k + 2) 0).setWidth 32))).getD k 0) <<< 8) ||| ((l.getD (4 * k + 3) 0).setWidth 32)) = Wx l (k + 1) := by
    exact Qhe l k oM (l.getD (4 * k) 0) (l.getD (4 * k + 1) 0) (l.getD (4 * k + 2) 0) (l.getD (4 * k + 3) 0) rfl rfl rfl rfl wl hw
   exact ⟨⟨k + 1, (((wl.set k (((wl.getD k 0) <<< 8) ||| ((l.getD (4 * k) 0).setWidth 32))).set k ((((wl.set k (((wl.getD k 0) <<< 8) ||| ((l.getD (4 * k) 0).setWidth 32))).getD k 0) <<< 8) ||| ((l.getD (4 * k + 1) 0).setWidth 32))).set k (((((wl.set k (((wl.getD k 0) <<< 8) ||| ((l.getD (4 * k) 0).setWidth 32))).set k ((((wl.set k (((wl.getD k 0) <<< 8) ||| ((l.getD (4 * k) 0).setWidth 32))).getD k 0) <<< 8) ||| ((l.getD (4 * k + 1) 0).setWidth 32))).getD k 0) <<< 8) ||| ((l.getD (4 * k + 2) 0).setWidth 32))).set k ((((((wl.set k (((wl.getD k 0) <<< 8) ||| ((l.getD (4 * k) 0).setWidth 32))).set k ((((wl.set k (((wl.getD k 0) <<< 8) ||| ((l.getD (4 * k) 0).setWidth 32))).getD k 0) <<< 8) ||| ((l.getD (4 * k + 1) 0).setWidth 32))).set k (((((wl.set k (((wl.getD k 0) <<< 8) ||| ((l.getD (4 * k) 0).setWidth 32))).set k ((((wl.set k (((wl.getD k 0) <<< 8) ||| ((l.getD (4 * k) 0).setWidth 32))).getD k 0) <<< 8) ||| ((l.getD (4 * k + 1) 0).setWidth 32))).getD k 0) <<< 8) ||| ((l.getD (4 * k + 2) 0).setWidth 32))).getD k 0) <<< 8) ||| ((l.getD (4 * k + 3) 0).setWidth 32)), oM, hwn, s0, s2, rfl, m9⟩, Ue rfl z8 oM oM⟩
  ·
   have hc5p := of_decide_eq_false hc5
   refine Qn (Qc (Qa ?_))
   refine Xg (dl 9) 9 Xo <| J8 rfl (i64 (k : Int)) <| X6 rfl (Yf (b := 15) rfl rfl oM oM) <| X6 rfl (Zl (r := ((k : Int) - 15 : Int).toNat) oM Gm Ze s2 rfl oM sD) <| Ym (v := (u32 (wl.getD (((k : Int) - 15 : Int).toNat) 0))) rfl (fun _ e' => Qi Xv rfl rfl (m3.ext e').h0 (Qu _ _ 0 sD)) <| J8 rfl (i64 (k : Int)) <| X6 rfl (Yf (b := 2) rfl rfl oM oM) <| X6 rfl (Zl (r := ((k : Int) - 2 : Int).toNat) oM Gm Ze s2 rfl oM sD) <| Ym (v := (u32 (wl.getD (((k : Int) - 2 : Int).toNat) 0))) rfl (fun _ e' => Qi Xv rfl rfl (m3.ext e').h0 (Qu _ _ 0 sD)) <| X6 rfl (Ud (v := (u32 (wl.getD (((k : Int) - 15 : Int).toNat) 0))) rfl) <| Gf m3 fun w10 m10 => Zx (u32 (wl.getD (((k : Int) - 2 : Int).toNat) 0)) ?_
   refine rN (Qa ?_)
   refine Xg (dl 10) 10 Xo <| J8 rfl (i64 (k : Int)) <| J8 rfl (i64 (k : Int)) <| X6 rfl (Yf (b := 16) rfl rfl oM oM) <| X6 rfl (Zl (r := ((k : Int) - 16 : Int).toNat) oM Gm Ze s2 rfl oM sD) <| Ym (v := (u32 (wl.getD (((k : Int) - 16 : Int).toNat) 0))) rfl (fun _ e' => Qi Xv rfl rfl (m10.ext e').h0 (Qu _ _ 0 sD)) <| J8 rfl (i64 (k : Int)) <| X6 rfl (Yf (b := 7) rfl rfl oM oM) <| X6 rfl (Zl (r := ((k : Int) - 7 : Int).toNat) oM Gm Ze s2 rfl oM sD) <| Ym (v := (u32 (wl.getD (((k : Int) - 7 : Int).toNat) 0))) rfl (fun _ e' => Qi Xv rfl rfl (m10.ext e').h0 (Qu _ _ 0 sD)) <| X6 rfl (Xz rfl rfl) <| Gf m10 fun w11 m11 => Qd (Zl (r := k) oM Gm Ze s2 rfl oM sD) <| Ye m11 (Xx (f := u32) (a := (wl.getD (((k : Int) - 16 : Int).toNat) 0) + (wl.getD (((k : Int) - 7 : Int).toNat) 0)) Xb Ze rfl rfl m11.h0 sD (.inl (Nat.zero_le _))) fun w12 m12 => ?_
   refine rN (Qa ?_)
   refine Xg (dl 11) 11 Xo <| J8 rfl (i64 (k : Int)) <| X6 rfl (Zl (r := k) oM Gm Ze s2 rfl oM sD) <| Ym rfl (fun _ e' => Qi Xv rfl rfl (m12.ext e').h0 (Qu _ _ 0 sD)) <| J8 rfl (u32 (wl.getD (((k : Int) - 15 : Int).toNat) 0)) <| Vg (v := (u32 (Q8 (wl.getD (((k : Int) - 15 : Int).toNat) 0) ((-7) : Int)))) rfl rfl (fun w13 _ew13 => Wu.mono (Qbe (Xm rfl rfl) (Eu (wl.getD (((k : Int) - 15 : Int).toNat) 0) _ _)) (by rintro _ w14 ⟨rfl, rfl⟩; exact ⟨rfl, Ext.refl _⟩)) <| J8 rfl (u32 (wl.getD (((k : Int) - 15 : Int).toNat) 0)) <| Vg (v := (u32 (Q8 (wl.getD (((k : Int) - 15 : Int).toNat) 0) ((-18) : Int)))) rfl rfl (fun w16 _ew16 => Wu.mono (Qbe (Xm rfl rfl) (Eu (wl.getD (((k : Int) - 15 : Int).toNat) 0) _ _)) (by rintro _ w17 ⟨rfl, rfl⟩; exact ⟨rfl, Ext.refl _⟩)) <| X6 rfl (Jn rfl rfl) <| J8 rfl (u32 (wl.getD (((k : Int) - 15 : Int).toNat) 0)) <| X6 rfl (Un (b := 3) rfl rfl oM) <| X6 rfl (Jn rfl rfl) ?_
   refine Gf m12 fun w19 m19 => Qd (Xz rfl rfl) <| Qd (Zl (r := k) oM Gm Ze s2 rfl oM sD) <| Ye m19 (Xx (f := u32) (a := ((wl.set k ((wl.getD (((k : Int) - 16 : Int).toNat) 0) + (wl.getD (((k : Int) - 7 : Int).toNat) 0))).getD k 0) + (((Q8 (wl.getD (((k : Int) - 15 : Int).toNat) 0) ((-7) : Int)) ^^^ (Q8 (wl.getD (((k : Int) - 15 : Int).toNat) 0) ((-18) : Int))) ^^^ ((wl.getD (((k : Int) - 15 : Int).toNat) 0) >>> 3))) Xb Ze rfl rfl m19.h0 sD (.inl (Nat.zero_le _))) fun w20 m20 => rN <| Xg (dl 11) 11 Xo <| J8 rfl (i64 (k : Int)) <| X6 rfl (Zl (r := k) oM Gm Ze s2 rfl oM sD) <| Ym rfl (fun _ e' => Qi Xv rfl rfl (m20.ext e').h0 (Qu _ _ 0 sD)) <| J8 rfl (u32 (wl.getD (((k : Int) - 2 : Int).toNat) 0)) ?_
   refine Vg (v := (u32 (Q8 (wl.getD (((k : Int) - 2 : Int).toNat) 0) ((-17) : Int)))) rfl rfl (fun w21 _ew21 => Wu.mono (Qbe (Xm rfl rfl) (Eu (wl.getD (((k : Int) - 2 : Int).toNat) 0) _ _)) (by rintro _ w22 ⟨rfl, rfl⟩; exact ⟨rfl, Ext.refl _⟩)) <| J8 rfl (u32 (wl.getD (((k : Int) - 2 : Int).toNat) 0)) <| Vg (v := (u32 (Q8 (wl.getD (((k : Int) - 2 : Int).toNat) 0) ((-19) : Int)))) rfl rfl (fun w24 _ew24 => Wu.mono (Qbe (Xm rfl rfl) (Eu (wl.getD (((k : Int) - 2 : Int).toNat) 0) _ _)) (by rintro _ w25 ⟨rfl, rfl⟩; exact ⟨rfl, Ext.refl _⟩)) <| X6 rfl (Jn rfl rfl) <| J8 rfl (u32 (wl.getD (((k : Int) - 2 : Int).toNat) 0)) <| X6 rfl (Un (b := 10) rfl rfl oM) <| X6 rfl (Jn rfl rfl) <| Gf m20 fun w27 m27 => Qd (Xz rfl rfl) <| Qd (Zl (r := k) oM Gm Ze s2 rfl oM sD) <| Ye m27 (Xx (f := u32) (a := (((wl.set k ((wl.getD (((k : Int) - 16 : Int).toNat) 0) + (wl.getD (((k : Int) - 7 : Int).toNat) 0))).set k (((wl.set k ((wl.getD (((k : Int) - 16 : Int).toNat) 0) + (wl.getD (((k : Int) - 7 : Int).toNat) 0))).getD k 0) + (((Q8 (wl.getD (((k : Int) - 15 : Int).toNat) 0) ((-7) : Int)) ^^^ (Q8 (wl.getD (((k : Int) - 15 : Int).toNat) 0) ((-18) : Int))) ^^^ ((wl.getD (((k : Int) - 15 : Int).toNat) 0) >>> 3)))).getD k 0) + (((Q8 (wl.getD (((k : Int) - 2 : Int).toNat) 0) ((-17) : Int)) ^^^ (Q8 (wl.getD (((k : Int) - 2 : Int).toNat) 0) ((-19) : Int))) ^^^ ((wl.getD (((k : Int) - 2 : Int).toNat) 0) >>> 10))) Xb Ze rfl rfl m27.h0 sD (.inl (Nat.zero_le _))) fun w28 m28 => ?_
   refine Zp (Qe (Qb ?_))
   refine Qd (Zf (b := 1) s8 rfl oM oM) <| Zm (i64 ((k : Int) + 1)) <| rN ?_
   have hwn : ((wl.set k ((wl.getD (((k : Int) - 16 : Int).toNat) 0) + (wl.getD (((k : Int) - 7 : Int).toNat) 0))).set k (((wl.set k ((wl.getD (((k : Int) - 16 : Int).toNat) 0) + (wl.getD (((k : Int) - 7 : Int).toNat) 0))).getD k 0) + (((Q8 (wl.getD (((k : Int) - 15 : Int).toNat) 0) ((-7) : Int)) ^^^ (Q8 (wl.getD (((k : Int) - 15 : Int).toNat) 0) ((-18) : Int))) ^^^ ((wl.getD (((k : Int) - 15 : Int).toNat) 0) >>> 3)))).set k ((((wl.set k ((wl.getD (((k : Int) - 16 : Int).toNat) 0) + (wl.getD (((k : Int) - 7 : Int).toNat) 0))).set k (((wl.set k ((wl.getD (((k : Int) - 16 : Int).toNat) 0) + (wl.getD (((k : Int) - 7 : Int).toNat) 0))).getD k 0) + (((Q8 (wl.getD (((k : Int) - 15 : Int).toNat) 0) ((-7) : Int)) ^^^ (Q8 (wl.getD (((k : Int) - 15 : Int).toNat) 0) ((-18) : Int))) ^^^ ((wl.getD (((k : Int) - 15 : Int).toNat) 0) >>> 3)))).getD k 0) + (((Q8 (wl.getD (((k : Int) - 2 : Int).toNat) 0) ((-17) : Int)) ^^^ (Q8 (wl.getD (((k : Int) - 2 : Int).toNat) 0) ((-19) : Int))) ^^^ ((wl.getD (((k : Int) - 2 : Int).toNat) 0) >>> 10))) = Wx l (k + 1) := by
    have e16 : ((k : Int) - 16).toNat = k - 16 := by omega
    have e7 : ((k : Int) - 7).toNat = k - 7 := by omega
    have e15 : ((k : Int) - 15).toNat = k - 15 := by omega
    have e2 : ((k : Int) - 2).toNat = k - 2 := by omega
    rw [e16, e7, e15, e2]
    exact Qop l k oM oM wl hw _ _ _ rfl rfl rfl
   exact ⟨⟨k + 1, ((wl.set k ((wl.getD (((k : Int) - 16 : Int).toNat) 0) + (wl.getD (((k : Int) - 7 : Int).toNat) 0))).set k (((wl.set k ((wl.getD (((k : Int) - 16 : Int).toNat) 0) + (wl.getD (((k : Int) - 7 : Int).toNat) 0))).getD k 0) + (((Q8 (wl.getD (((k : Int) - 15 : Int).toNat) 0) ((-7) : Int)) ^^^ (Q8 (wl.getD (((k : Int) - 15 : Int).toNat) 0) ((-18) : Int))) ^^^ ((wl.getD (((k : Int) - 15 : Int).toNat) 0) >>> 3)))).set k ((((wl.set k ((wl.getD (((k : Int) - 16 : Int).toNat) 0) + (wl.getD (((k : Int) - 7 : Int).toNat) 0))).set k (((wl.set k ((wl.getD (((k : Int) - 16 : Int).toNat) 0) + (wl.getD (((k : Int) - 7 : Int).toNat) 0))).getD k 0) + (((Q8 (wl.getD (((k : Int) - 15 : Int).toNat) 0) ((-7) : Int)) ^^^ (Q8 (wl.getD (((k : Int) - 15 : Int).toNat) 0) ((-18) : Int))) ^^^ ((wl.getD (((k : Int) - 15 : Int).toNat) 0) >>> 3)))).getD k 0) + (((Q8 (wl.getD (((k : Int) - 2 : Int).toNat) 0) ((-17) : Int)) ^^^ (Q8 (wl.getD (((k : Int) - 2 : Int).toNat) 0) ((-19) : Int))) ^^^ ((wl.getD (((k : Int) - 2 : Int).toNat) 0) >>> 10))), oM, hwn, s0, s2, rfl, m28⟩, Ue rfl z8 oM oM⟩
 ·
  have hc4p := of_decide_eq_false hc4
  obtain rfl : k = 64 := by omega
  have hwl : wl.length = 64 := by rw [hw, Qam]
  refine X4 ?_
  refine Qj (Qj (Xi ?_))
  refine sR <| Qd (Qo Gm rfl Qbw s2 m3.h0 sZ) <| Ye m3 (Qg (f := u32) (l := wl) Xb Qbw s2 rfl sD m3.h0 sZ rfl) fun w29 m29 => ?_
  refine rN (Zz ?_)
  refine Qp [(agg u32 wl)] ⟨⟨_, s2, Xn Gm rfl Qbw m29.h0 sZ⟩, trivial⟩ ?_
  exact ⟨congrArg (agg u32) hw, m29.toExt⟩
theorem c_take (bd : Nat) (x0 x1 x2 x3 x4 x5 x6 x7 : BitVec 32) (v : Value) (n : BitVec 64) (vb : Value) (l : Z8) (w0 : World) (R : Rest) (m0 : Mem w0 R [(bd, .cells #[(u32 x0), (u32 x1), (u32 x2), (u32 x3), (u32 x4), (u32 x5), (u32 x6), (u32 x7), v, (u64 n)] 154 (0, 0))]) (hT : Tabs R.blk) (hr : Rd R.blk u8 vb l) (hl : l.length = 64) : X0 prog 102 #[(ptr bd 0), vb] w0 (fun r w1 => ∃ y0 y1 y2 y3 y4 y5 y6 y7, [y0, y1, y2, y3, y4, y5, y6, y7] = Qhc [x0, x1, x2, x3, x4, x5, x6, x7] l ∧ Mem w1 R [(bd, .cells #[(u32 y0), (u32 y1), (u32 y2), (u32 y3), (u32 y4), (u32 y5), (u32 y6), (u32 y7), v, (u64 n)] 154 (0, 0))]) := by
 refine Qy (args := [(ptr bd 0), vb]) func102 rfl ntmps102 results102 rfl ?_
 obtain ⟨Es, fzs, hTs⟩ := hT.start
 obtain ⟨Er, fzr, hTr⟩ := hT.round
 refine Qa <| Xg (dl 47) 47 Xo <| J8 rfl (ptr bd 0) <| X6 rfl (Zc rfl) <| X6 rfl (Zi (r := 0) Vh rfl Je Uj rfl rfl) <| X6 rfl (Xu 0 0 Y5 Ze rfl) <| Ym (v := (u32 x0)) rfl (fun _ e' => Qi Xv rfl rfl (m0.ext e').h0 rfl) <| J8 rfl (ptr bd 0) <| X6 rfl (Zc rfl) <| X6 rfl (Zi (r := 0) Vh rfl Je Uj rfl rfl) <| X6 rfl (Xu 1 1 Y5 Ze rfl) <| Ym (v := (u32 x1)) rfl (fun _ e' => Qi Xv rfl rfl (m0.ext e').h0 rfl) ?_
 refine J8 rfl (ptr bd 0) <| X6 rfl (Zc rfl) <| X6 rfl (Zi (r := 0) Vh rfl Je Uj rfl rfl) <| X6 rfl (Xu 2 2 Y5 Ze rfl) <| Ym (v := (u32 x2)) rfl (fun _ e' => Qi Xv rfl rfl (m0.ext e').h0 rfl) <| J8 rfl (ptr bd 0) <| X6 rfl (Zc rfl) <| X6 rfl (Zi (r := 0) Vh rfl Je Uj rfl rfl) <| X6 rfl (Xu 3 3 Y5 Ze rfl) <| Ym (v := (u32 x3)) rfl (fun _ e' => Qi Xv rfl rfl (m0.ext e').h0 rfl) <| J8 rfl (ptr bd 0) <| X6 rfl (Zc rfl) ?_
 refine X6 rfl (Zi (r := 0) Vh rfl Je Uj rfl rfl) <| X6 rfl (Xu 4 4 Y5 Ze rfl) <| Ym (v := (u32 x4)) rfl (fun _ e' => Qi Xv rfl rfl (m0.ext e').h0 rfl) <| J8 rfl (ptr bd 0) <| X6 rfl (Zc rfl) <| X6 rfl (Zi (r := 0) Vh rfl Je Uj rfl rfl) <| X6 rfl (Xu 5 5 Y5 Ze rfl) <| Ym (v := (u32 x5)) rfl (fun _ e' => Qi Xv rfl rfl (m0.ext e').h0 rfl) <| J8 rfl (ptr bd 0) <| X6 rfl (Zc rfl) <| X6 rfl (Zi (r := 0) Vh rfl Je Uj rfl rfl) <| X6 rfl (Xu 6 6 Y5 Ze rfl) ?_
 refine Ym (v := (u32 x6)) rfl (fun _ e' => Qi Xv rfl rfl (m0.ext e').h0 rfl) <| J8 rfl (ptr bd 0) <| X6 rfl (Zc rfl) <| X6 rfl (Zi (r := 0) Vh rfl Je Uj rfl rfl) <| X6 rfl (Xu 7 7 Y5 Ze rfl) <| Ym (v := (u32 x7)) rfl (fun _ e' => Qi Xv rfl rfl (m0.ext e').h0 rfl) <| X6 rfl (Ud (v := (u32 x0)) rfl) <| X6 rfl (Ud (v := (u32 x1)) rfl) <| X6 rfl (Ud (v := (u32 x2)) rfl) <| X6 rfl (Ud (v := (u32 x3)) rfl) <| X6 rfl (Ud (v := (u32 x4)) rfl) <| X6 rfl (Ud (v := (u32 x5)) rfl) ?_
 refine X6 rfl (Ud (v := (u32 x6)) rfl) <| Gf m0 fun w1 m1 => Zx (u32 x7) ?_
 refine rN (Qa (sR ?_))
 refine Zm vb <| U3 m1 (oc111 (Jv rfl) (Qpy vb l _ (Rd.ofRest hr m1) sD)) fun w2 m2 => Zm (i64 0) ?_
 refine rN (Qh ?_)
 refine Y1 (fun g wv => ∃ (k : Nat) (sa sz sc se sf sg sh sk : BitVec 32), (k ≤ 64) ∧ ([sa, sz, sc, se, sf, sg, sh, sk] = Qap (Du l) k [x0, x1, x2, x3, x4, x5, x6, x7]) ∧ g 0 = (ptr bd 0) ∧ g 1 = vb ∧ g 4 = (u32 sa) ∧ g 5 = (u32 sz) ∧ g 6 = (u32 sc) ∧ g 7 = (u32 se) ∧ g 8 = (u32 sf) ∧ g 9 = (u32 sg) ∧ g 10 = (u32 sh) ∧ g 11 = (u32 sk) ∧ g 59 = (agg u32 (Du l)) ∧ g 60 = (i64 (k : Int)) ∧ Mem wv R [(bd, .cells #[(u32 x0), (u32 x1), (u32 x2), (u32 x3), (u32 x4), (u32 x5), (u32 x6), (u32 x7), v, (u64 n)] 154 (0, 0))]) (fun g wv => (64 - RowKit.intOf (g 60)).toNat) ?_ ?_
 ·exact ⟨0, x0, x1, x2, x3, x4, x5, x6, x7, oM, rfl, rfl, rfl, rfl, rfl, rfl, rfl, rfl, rfl, rfl, rfl, rfl, rfl, m2⟩
 rintro fr4 w5 ⟨k, sa, sz, sc, se, sf, sg, sh, sk, hk1, hs, s0, s1, s4, s5, s6, s7, s8, s9, s10, s11, s59, s60, m5⟩
 have z60 := s60
 have z4 := s4
 have z5 := s5
 have z6 := s6
 have z7 := s7
 have z8 := s8
 have z9 := s9
 have z10 := s10
 have z11 := s11
 refine sR <| Qd (Xa (b := 64) s60 rfl) ?_
 refine rN (Qa ?_)
 refine Zy rfl (fun hc6 => ?_) (fun hc6 => ?_)
 ·
  have hc6p := of_decide_eq_true hc6
  refine Qn (Qc (Qa (Qh (sR ?_))))
  refine Yb s60 <| Qd (v := (u32 ((Du l).getD k 0))) (Ju Gm Xv rfl Ze s59 s60 oM sD (Qu _ _ 0 sD)) <| Zx (i64 (k : Int)) <| Zx (u32 ((Du l).getD k 0)) ?_
  refine rN (sR ?_)
  refine Yb s11 <| Zm (u32 ((Du l).getD k 0)) <| Qd (Xz rfl rfl) <| Zm (i64 (k : Int)) <| Qd (Zl (r := k) oM Gm Ze rfl rfl oM sD) <| Qd (Qi Xv rfl rfl (m5.rest _ _ hTr) (Qu _ _ 0 sD)) <| Qd (Xz rfl rfl) <| Yb s8 <| Yb s9 <| Qd (Df rfl rfl) <| Yb s8 <| Qd (Qjl rfl) ?_
  refine Yb s10 <| Qd (Df rfl rfl) <| Qd (Jn rfl rfl) <| Qd (Xz rfl rfl) <| yqA rfl ?_
  refine rN (sR ?_)
  refine Yb rfl <| Yb s8 <| Vw (Qbe (Xm rfl rfl) (Eu sf _ _)) ?_
  rintro _ w7 ⟨rfl, rfl⟩
  refine Yb s8 <| Vw (Qbe (Xm rfl rfl) (Eu sf _ _)) ?_
  rintro _ w9 ⟨rfl, rfl⟩
  refine Qd (Jn rfl rfl) <| Yb s8 <| Vw (Qbe (Xm rfl rfl) (Eu sf _ _)) ?_
  rintro _ w11 ⟨rfl, rfl⟩
  refine Qd (Jn rfl rfl) <| Qd (Xz rfl rfl) <| yqA rfl ?_
  refine rN (sR ?_)
  refine Yb s4 <| Yb s5 <| Qd (Df rfl rfl) <| Yb s4 <| Yb s6 <| Qd (Df rfl rfl) <| Qd (Jn rfl rfl) <| Yb s5 <| Yb s6 <| Qd (Df rfl rfl) <| Qd (Jn rfl rfl) <| Zx (u32 (((sa &&& sz) ^^^ (sa &&& sc)) ^^^ (sz &&& sc))) ?_
  refine rN (sR ?_)
  refine Zm (u32 (((sa &&& sz) ^^^ (sa &&& sc)) ^^^ (sz &&& sc))) <| Yb s4 <| Vw (Qbe (Xm rfl rfl) (Eu sa _ _)) ?_
  rintro _ w13 ⟨rfl, rfl⟩
  refine Yb s4 <| Vw (Qbe (Xm rfl rfl) (Eu sa _ _)) ?_
  rintro _ w15 ⟨rfl, rfl⟩
  refine Qd (Jn rfl rfl) <| Yb s4 <| Vw (Qbe (Xm rfl rfl) (Eu sa _ _)) ?_
  rintro _ w17 ⟨rfl, rfl⟩
  refine Qd (Jn rfl rfl) <| Qd (Xz rfl rfl) <| yqA rfl ?_
  refine rN (Qb ?_)
  refine Yb s10 <| Yb s9 <| Yb s8 <| Yb s7 <| Yb rfl <| Qd (Xz rfl rfl) <| Yb s6 <| Yb s5 <| Yb s4 <| Yb rfl <| Yb rfl <| Qd (Xz rfl rfl) ?_
  refine Zx (u32 sh) <| Zx (u32 sg) <| Zx (u32 sf) <| yqA rfl <| Zx (u32 sc) <| Zx (u32 sz) <| Zx (u32 sa) <| yqA rfl ?_
  refine Zp (Qe (Qb ?_))
  refine Qd (Zf (b := 1) s60 rfl oM oM) <| Zm (i64 ((k : Int) + 1)) <| rN ?_
  have hsn : [((((sk + ((Du l).getD k 0)) + (Ed.getD k 0)) + ((sf &&& sg) ^^^ ((~~~sf) &&& sh))) + (((Q8 sf ((-6) : Int)) ^^^ (Q8 sf ((-11) : Int))) ^^^ (Q8 sf ((-25) : Int)))) + ((((sa &&& sz) ^^^ (sa &&& sc)) ^^^ (sz &&& sc)) + (((Q8 sa ((-2) : Int)) ^^^ (Q8 sa ((-13) : Int))) ^^^ (Q8 sa ((-22) : Int)))), sa, sz, sc, se + ((((sk + ((Du l).getD k 0)) + (Ed.getD k 0)) + ((sf &&& sg) ^^^ ((~~~sf) &&& sh))) + (((Q8 sf ((-6) : Int)) ^^^ (Q8 sf ((-11) : Int))) ^^^ (Q8 sf ((-25) : Int)))), sf, sg, sh] = Qap (Du l) (k + 1) [x0, x1, x2, x3, x4, x5, x6, x7] := by show _ = rnd _ _ (Qap (Du l) k [x0, x1, x2, x3, x4, x5, x6, x7]); rw [← hs]; rfl
  exact ⟨⟨k + 1, (((((sk + ((Du l).getD k 0)) + (Ed.getD k 0)) + ((sf &&& sg) ^^^ ((~~~sf) &&& sh))) + (((Q8 sf ((-6) : Int)) ^^^ (Q8 sf ((-11) : Int))) ^^^ (Q8 sf ((-25) : Int)))) + ((((sa &&& sz) ^^^ (sa &&& sc)) ^^^ (sz &&& sc)) + (((Q8 sa ((-2) : Int)) ^^^ (Q8 sa ((-13) : Int))) ^^^ (Q8 sa ((-22) : Int))))), sa, sz, sc, (se + ((((sk + ((Du l).getD k 0)) + (Ed.getD k 0)) + ((sf &&& sg) ^^^ ((~~~sf) &&& sh))) + (((Q8 sf ((-6) : Int)) ^^^ (Q8 sf ((-11) : Int))) ^^^ (Q8 sf ((-25) : Int))))), sf, sg, sh, oM, hsn, s0, s1, rfl, rfl, rfl, rfl, rfl, rfl, rfl, rfl, s59, rfl, m5⟩, Ue rfl z60 oM oM⟩
 ·
  have hc6p := of_decide_eq_false hc6
  obtain rfl : k = 64 := by omega
  refine X4 ?_
  refine Qj (Qj (Xi ?_))
  refine sR <| Yb s4 <| Yb s5 <| Yb s6 <| Yb s7 <| Yb s8 <| Yb s9 <| Yb s10 <| Yb s11 <| Qd (Gi u32 [sa, sz, sc, se, sf, sg, sh, sk] Xb Uj Y5 Ze rfl rfl) <| Zm (i64 0) ?_
  refine rN (V8 ?_)
  refine Vo 9 ?_
  refine Zq (sR ?_)
  refine Qd (Jd 0 8) ?_
  refine rN (Qa ?_)
  refine Q9 rfl Jb ?_
  refine Qn (Qc (Qa (Qh (sR ?_))))
  refine Zm (i64 0) <| Qd (v := (u32 sa)) (Ju (i := 0) Y5 Xv rfl Ze rfl rfl oM sD (Qu _ _ 0 Ya)) <| Zx (i64 0) <| Zx (u32 sa) <| rN <| Xg (dl 10) 10 Xo <| Uh rfl s0 <| J8 rfl (i64 0) <| X6 rfl (Zc rfl) <| X6 rfl (Zi (r := 0) Vh rfl Je Uj rfl rfl) <| X6 rfl (Xu 0 0 Y5 Ze rfl) <| Ym (v := (u32 x0)) rfl (fun _ e' => Qi Xv rfl rfl (m5.ext e').h0 rfl) ?_
  refine J8 rfl (u32 sa) <| X6 rfl (Xz rfl rfl) <| X6 rfl (Zc rfl) <| X6 rfl (Zi (r := 0) Vh rfl Je Uj rfl rfl) <| Gf m5 fun w19 m19 => Qd (Xu 0 0 Y5 Ze rfl) <| Vf (Ul Ze rfl rfl (Xb _) m19.h0 Ya (.inl (Nat.zero_le _))) ?_
  rintro _ w20 uq20
  have m20 : Mem _ _ [(bd, .cells #[(u32 (x0 + sa)), (u32 x1), (u32 x2), (u32 x3), (u32 x4), (u32 x5), (u32 x6), (u32 x7), v, (u64 n)] 154 (0, 0))] := m19.upd0 uq20
  refine Zp (Qe (Qb ?_))
  refine Qd (v := (i64 1)) (Yo 0 1) <| Zm (i64 1) ?_
  refine rN (Zq (sR ?_))
  refine Qd (Jd 1 8) ?_
  refine rN (Qa ?_)
  refine Q9 rfl Jb ?_
  refine Qn (Qc (Qa (Qh (sR ?_))))
  refine Zm (i64 1) <| Qd (v := (u32 sz)) (Ju (i := 1) Y5 Xv rfl Ze rfl rfl oM sD (Qu _ _ 0 Ya)) <| Zx (i64 1) <| Zx (u32 sz) <| rN <| Xg (dl 10) 10 Xo <| Uh rfl s0 <| J8 rfl (i64 1) <| X6 rfl (Zc rfl) <| X6 rfl (Zi (r := 0) Vh rfl Je Uj rfl rfl) <| X6 rfl (Xu 1 1 Y5 Ze rfl) <| Ym (v := (u32 x1)) rfl (fun _ e' => Qi Xv rfl rfl (m20.ext e').h0 rfl) ?_
  refine J8 rfl (u32 sz) <| X6 rfl (Xz rfl rfl) <| X6 rfl (Zc rfl) <| X6 rfl (Zi (r := 0) Vh rfl Je Uj rfl rfl) <| Gf m20 fun w21 m21 => Qd (Xu 1 1 Y5 Ze rfl) <| Vf (Ul Ze rfl rfl (Xb _) m21.h0 Ya (.inl (Nat.zero_le _))) ?_
  rintro _ w22 uq22
  have m22 : Mem _ _ [(bd, .cells #[(u32 (x0 + sa)), (u32 (x1 + sz)), (u32 x2), (u32 x3), (u32 x4), (u32 x5), (u32 x6), (u32 x7), v, (u64 n)] 154 (0, 0))] := m21.upd0 uq22
  refine Zp (Qe (Qb ?_))
  refine Qd (v := (i64 2)) (Yo 1 1) <| Zm (i64 2) ?_
  refine rN (Zq (sR ?_))
  refine Qd (Jd 2 8) ?_
  refine rN (Qa ?_)
  refine Q9 rfl Jb ?_
  refine Qn (Qc (Qa (Qh (sR ?_))))
  refine Zm (i64 2) <| Qd (v := (u32 sc)) (Ju (i := 2) Y5 Xv rfl Ze rfl rfl oM sD (Qu _ _ 0 Ya)) <| Zx (i64 2) <| Zx (u32 sc) <| rN <| Xg (dl 10) 10 Xo <| Uh rfl s0 <| J8 rfl (i64 2) <| X6 rfl (Zc rfl) <| X6 rfl (Zi (r := 0) Vh rfl Je Uj rfl rfl) <| X6 rfl (Xu 2 2 Y5 Ze rfl) <| Ym (v := (u32 x2)) rfl (fun _ e' => Qi Xv rfl rfl (m22.ext e').h0 rfl) ?_
  refine J8 rfl (u32 sc) <| X6 rfl (Xz rfl rfl) <| X6 rfl (Zc rfl) <| X6 rfl (Zi (r := 0) Vh rfl Je Uj rfl rfl) <| Gf m22 fun w23 m23 => Qd (Xu 2 2 Y5 Ze rfl) <| Vf (Ul Ze rfl rfl (Xb _) m23.h0 Ya (.inl (Nat.zero_le _))) ?_
  rintro _ w24 uq24
  have m24 : Mem _ _ [(bd, .cells #[(u32 (x0 + sa)), (u32 (x1 + sz)), (u32 (x2 + sc)), (u32 x3), (u32 x4), (u32 x5), (u32 x6), (u32 x7), v, (u64 n)] 154 (0, 0))] := m23.upd0 uq24
  refine Zp (Qe (Qb ?_))
  refine Qd (v := (i64 3)) (Yo 2 1) <| Zm (i64 3) ?_
  refine rN (Zq (sR ?_))
  refine Qd (Jd 3 8) ?_
  refine rN (Qa ?_)
  refine Q9 rfl Jb ?_
  refine Qn (Qc (Qa (Qh (sR ?_))))
  refine Zm (i64 3) <| Qd (v := (u32 se)) (Ju (i := 3) Y5 Xv rfl Ze rfl rfl oM sD (Qu _ _ 0 Ya)) <| Zx (i64 3) <| Zx (u32 se) <| rN <| Xg (dl 10) 10 Xo <| Uh rfl s0 <| J8 rfl (i64 3) <| X6 rfl (Zc rfl) <| X6 rfl (Zi (r := 0) Vh rfl Je Uj rfl rfl) <| X6 rfl (Xu 3 3 Y5 Ze rfl) <| Ym (v := (u32 x3)) rfl (fun _ e' => Qi Xv rfl rfl (m24.ext e').h0 rfl) ?_
  refine J8 rfl (u32 se) <| X6 rfl (Xz rfl rfl) <| X6 rfl (Zc rfl) <| X6 rfl (Zi (r := 0) Vh rfl Je Uj rfl rfl) <| Gf m24 fun w25 m25 => Qd (Xu 3 3 Y5 Ze rfl) <| Vf (Ul Ze rfl rfl (Xb _) m25.h0 Ya (.inl (Nat.zero_le _))) ?_
  rintro _ w26 uq26
  have m26 : Mem _ _ [(bd, .cells #[(u32 (x0 + sa)), (u32 (x1 + sz)), (u32 (x2 + sc)), (u32 (x3 + se)), (u32 x4), (u32 x5), (u32 x6), (u32 x7), v, (u64 n)] 154 (0, 0))] := m25.upd0 uq26
  refine Zp (Qe (Qb ?_))
  refine Qd (v := (i64 4)) (Yo 3 1) <| Zm (i64 4) <| rN ?_
  refine CR.abs (fun g => g 0 = (ptr bd 0) ∧ g 1 = vb ∧ g 4 = (u32 sa) ∧ g 5 = (u32 sz) ∧ g 6 = (u32 sc) ∧ g 7 = (u32 se) ∧ g 8 = (u32 sf) ∧ g 9 = (u32 sg) ∧ g 10 = (u32 sh) ∧ g 11 = (u32 sk) ∧ g 16 = (i64 3) ∧ g 17 = (u32 se) ∧ g 59 = (agg u32 (Du l)) ∧ g 60 = (i64 (64 : Int)) ∧ g 61 = (bl (decide ((64 : Int) < 64))) ∧ g 132 = (agg u32 ([sa, sz, sc, se, sf, sg, sh, sk])) ∧ g 133 = (i64 4) ∧ g 134 = (bl true) ∧ True) ⟨s0, s1, s4, s5, s6, s7, s8, s9, s10, s11, rfl, rfl, s59, s60, rfl, rfl, rfl, rfl, trivial⟩ ?_
  rintro fr27 ⟨s0, s1, s4, s5, s6, s7, s8, s9, s10, s11, s16, s17, s59, s60, s61, s132, s133, s134, _⟩
  refine Zq (sR ?_)
  refine Qd (Xa (a := 4) (b := 8) s133 rfl) ?_
  refine rN (Qa ?_)
  refine Q9 rfl Jb ?_
  refine Qn (Qc (Qa (Qh (sR ?_))))
  refine Yb s133 <| Qd (v := (u32 sf)) (Ju (i := 4) Y5 Xv rfl Ze s132 s133 oM sD (Qu _ _ 0 Ya)) <| Zx (i64 4) <| Zx (u32 sf) <| rN <| Xg (dl 10) 10 Xo <| Uh rfl s0 <| J8 rfl (i64 4) <| X6 rfl (Zc rfl) <| X6 rfl (Zi (r := 0) Vh rfl Je Uj rfl rfl) <| X6 rfl (Xu 4 4 Y5 Ze rfl) <| Ym (v := (u32 x4)) rfl (fun _ e' => Qi Xv rfl rfl (m26.ext e').h0 rfl) ?_
  refine J8 rfl (u32 sf) <| X6 rfl (Xz rfl rfl) <| X6 rfl (Zc rfl) <| X6 rfl (Zi (r := 0) Vh rfl Je Uj rfl rfl) <| Gf m26 fun w28 m28 => Qd (Xu 4 4 Y5 Ze rfl) <| Vf (Ul Ze rfl rfl (Xb _) m28.h0 Ya (.inl (Nat.zero_le _))) ?_
  rintro _ w29 uq29
  have m29 : Mem _ _ [(bd, .cells #[(u32 (x0 + sa)), (u32 (x1 + sz)), (u32 (x2 + sc)), (u32 (x3 + se)), (u32 (x4 + sf)), (u32 x5), (u32 x6), (u32 x7), v, (u64 n)] 154 (0, 0))] := m28.upd0 uq29
  refine Zp (Qe (Qb ?_))
  refine Qd (v := (i64 5)) (Zf (a := 4) (b := 1) s133 rfl oM oM) <| Zm (i64 5) ?_
  refine rN (Zq (sR ?_))
  refine Qd (Jd 5 8) ?_
  refine rN (Qa ?_)
  refine Q9 rfl Jb ?_
  refine Qn (Qc (Qa (Qh (sR ?_))))
  refine Zm (i64 5) <| Qd (v := (u32 sg)) (Ju (i := 5) Y5 Xv rfl Ze s132 rfl oM sD (Qu _ _ 0 Ya)) <| Zx (i64 5) <| Zx (u32 sg) <| rN <| Xg (dl 10) 10 Xo <| Uh rfl s0 <| J8 rfl (i64 5) <| X6 rfl (Zc rfl) <| X6 rfl (Zi (r := 0) Vh rfl Je Uj rfl rfl) <| X6 rfl (Xu 5 5 Y5 Ze rfl) <| Ym (v := (u32 x5)) rfl (fun _ e' => Qi Xv rfl rfl (m29.ext e').h0 rfl) ?_
  refine J8 rfl (u32 sg) <| X6 rfl (Xz rfl rfl) <| X6 rfl (Zc rfl) <| X6 rfl (Zi (r := 0) Vh rfl Je Uj rfl rfl) <| Gf m29 fun w30 m30 => Qd (Xu 5 5 Y5 Ze rfl) <| Vf (Ul Ze rfl rfl (Xb _) m30.h0 Ya (.inl (Nat.zero_le _))) ?_
  rintro _ w31 uq31
  have m31 : Mem _ _ [(bd, .cells #[(u32 (x0 + sa)), (u32 (x1 + sz)), (u32 (x2 + sc)), (u32 (x3 + se)), (u32 (x4 + sf)), (u32 (x5 + sg)), (u32 x6), (u32 x7), v, (u64 n)] 154 (0, 0))] := m30.upd0 uq31
  refine Zp (Qe (Qb ?_))
  refine Qd (v := (i64 6)) (Yo 5 1) <| Zm (i64 6) ?_
  refine rN (Zq (sR ?_))
  refine Qd (Jd 6 8) ?_
  refine rN (Qa ?_)
  refine Q9 rfl Jb ?_
  refine Qn (Qc (Qa (Qh (sR ?_))))
  refine Zm (i64 6) <| Qd (v := (u32 sh)) (Ju (i := 6) Y5 Xv rfl Ze s132 rfl oM sD (Qu _ _ 0 Ya)) <| Zx (i64 6) <| Zx (u32 sh) <| rN <| Xg (dl 10) 10 Xo <| Uh rfl s0 <| J8 rfl (i64 6) <| X6 rfl (Zc rfl) <| X6 rfl (Zi (r := 0) Vh rfl Je Uj rfl rfl) <| X6 rfl (Xu 6 6 Y5 Ze rfl) <| Ym (v := (u32 x6)) rfl (fun _ e' => Qi Xv rfl rfl (m31.ext e').h0 rfl) ?_
  refine J8 rfl (u32 sh) <| X6 rfl (Xz rfl rfl) <| X6 rfl (Zc rfl) <| X6 rfl (Zi (r := 0) Vh rfl Je Uj rfl rfl) <| Gf m31 fun w32 m32 => Qd (Xu 6 6 Y5 Ze rfl) <| Vf (Ul Ze rfl rfl (Xb _) m32.h0 Ya (.inl (Nat.zero_le _))) ?_
  rintro _ w33 uq33
  have m33 : Mem _ _ [(bd, .cells #[(u32 (x0 + sa)), (u32 (x1 + sz)), (u32 (x2 + sc)), (u32 (x3 + se)), (u32 (x4 + sf)), (u32 (x5 + sg)), (u32 (x6 + sh)), (u32 x7), v, (u64 n)] 154 (0, 0))] := m32.upd0 uq33
  refine Zp (Qe (Qb ?_))
  refine Qd (v := (i64 7)) (Yo 6 1) <| Zm (i64 7) ?_
  refine rN (Zq (sR ?_))
  refine Qd (Jd 7 8) ?_
  refine rN (Qa ?_)
  refine Q9 rfl Jb ?_
  refine Qn (Qc (Qa (Qh (sR ?_))))
  refine Zm (i64 7) <| Qd (v := (u32 sk)) (Ju (i := 7) Y5 Xv rfl Ze s132 rfl oM sD (Qu _ _ 0 Ya)) <| Zx (i64 7) <| Zx (u32 sk) <| rN <| Xg (dl 10) 10 Xo <| Uh rfl s0 <| J8 rfl (i64 7) <| X6 rfl (Zc rfl) <| X6 rfl (Zi (r := 0) Vh rfl Je Uj rfl rfl) <| X6 rfl (Xu 7 7 Y5 Ze rfl) <| Ym (v := (u32 x7)) rfl (fun _ e' => Qi Xv rfl rfl (m33.ext e').h0 rfl) ?_
  refine J8 rfl (u32 sk) <| X6 rfl (Xz rfl rfl) <| X6 rfl (Zc rfl) <| X6 rfl (Zi (r := 0) Vh rfl Je Uj rfl rfl) <| Gf m33 fun w34 m34 => Qd (Xu 7 7 Y5 Ze rfl) <| Vf (Ul Ze rfl rfl (Xb _) m34.h0 Ya (.inl (Nat.zero_le _))) ?_
  rintro _ w35 uq35
  have m35 : Mem _ _ [(bd, .cells #[(u32 (x0 + sa)), (u32 (x1 + sz)), (u32 (x2 + sc)), (u32 (x3 + se)), (u32 (x4 + sf)), (u32 (x5 + sg)), (u32 (x6 + sh)), (u32 (x7 + sk)), v, (u64 n)] 154 (0, 0))] := m34.upd0 uq35
  refine Zp (Qe (Qb ?_))
  refine Qd (v := (i64 8)) (Yo 7 1) <| Zm (i64 8) ?_
  refine rN (Zq (sR ?_))
  refine Qd (Jd 8 8) ?_
  refine rN (Qa ?_)
  refine Ja rfl Jb <| X4 ?_
  refine Qj (Qj (Xi ?_))
  refine Ls [] trivial ?_
  exact ⟨_, _, _, _, _, _, _, _, by rw [Qhc, ← hs]; rfl, m35⟩
end Go.Proofs.YtkmiemlpfkfiiaaDoor
