/- Contracts: hash, first part. Conditions: none beyond those that each theorem states. -/
import Derived.Test.YtkmiemlpfkfiiaaDoorTab
import Derived.Test.YtkmiemlpfkfiiaaDoorFwM
import Derived.Test.YtkmiemlpfkfiiaaDoorSt6
namespace Go.Proofs.YtkmiemlpfkfiiaaDoor
open Tryd
set_option linter.unusedVariables false
set_option linter.unusedSimpArgs false
def Qh5 : List (BitVec 32) := [1779033703#32, 3144134277#32, 1013904242#32, 2773480762#32, 1359893119#32, 2600822924#32, 528734635#32, 1541459225#32]
def Qbn : List (BitVec 32) := [1116352408#32, 1899447441#32, 3049323471#32, 3921009573#32, 961987163#32, 1508970993#32, 2453635748#32, 2870763221#32, 3624381080#32, 310598401#32, 607225278#32, 1426881987#32, 1925078388#32, 2162078206#32, 2614888103#32, 3248222580#32, 3835390401#32, 4022224774#32, 264347078#32, 604807628#32, 770255983#32, 1249150122#32, 1555081692#32, 1996064986#32, 2554220882#32, 2821834349#32, 2952996808#32, 3210313671#32, 3336571891#32, 3584528711#32, 113926993#32, 338241895#32, 666307205#32, 773529912#32, 1294757372#32, 1396182291#32, 1695183700#32, 1986661051#32, 2177026350#32, 2456956037#32, 2730485921#32, 2820302411#32, 3259730800#32, 3345764771#32, 3516065817#32, 3600352804#32, 4094571909#32, 275423344#32, 430227734#32, 506948616#32, 659060556#32, 883997877#32, 958139571#32, 1322822218#32, 1537002063#32, 1747873779#32, 1955562222#32, 2024104815#32, 2227730452#32, 2361852424#32, 2428436474#32, 2756734187#32, 3204031479#32, 3329325298#32]
@[simp] theorem roundL_length : Qbn.length = 64 := rfl
structure Tabs (m : Nat → Option Obj) : Prop where
 start : ∃ E fz, m 0 = some (.cells (cl u32 [1779033703#32, 3144134277#32, 1013904242#32, 2773480762#32, 1359893119#32, 2600822924#32, 528734635#32, 1541459225#32]) E fz)
 round : ∃ E fz, m 1 = some (.cells (cl u32 Qbn) E fz)
theorem Tabs.mono {m m' : Nat → Option Obj} (h : Tabs m) (hm : ∀ b o, m b = some o → m' b = some o) : Tabs m' :=
 ⟨let ⟨E, fz, e⟩ := h.start; ⟨E, fz, hm _ _ e⟩, let ⟨E, fz, e⟩ := h.round; ⟨E, fz, hm _ _ e⟩⟩
def be4 (a b c d : BitVec 8) : BitVec 32 := (((0#32 <<< 8 ||| a.setWidth 32) <<< 8 ||| b.setWidth 32) <<< 8 ||| c.setWidth 32) <<< 8 ||| d.setWidth 32
def Qc7 (l : Zj) (w : List (BitVec 32)) (k : Nat) : BitVec 32 :=
 if k < 16 then be4 (l.getD (4 * k) 0) (l.getD (4 * k + 1) 0) (l.getD (4 * k + 2) 0) (l.getD (4 * k + 3) 0)
 else (w.getD (k - 16) 0 + w.getD (k - 7) 0) + ((Qn (w.getD (k - 15) 0) (-7) ^^^ Qn (w.getD (k - 15) 0) (-18)) ^^^ (w.getD (k - 15) 0) >>> 3)
  + ((Qn (w.getD (k - 2) 0) (-17) ^^^ Qn (w.getD (k - 2) 0) (-19)) ^^^ (w.getD (k - 2) 0) >>> 10)
def Vs (l : Zj) : Nat → List (BitVec 32)
 | 0 => List.replicate 64 0
 | k + 1 => (Vs l k).set k (Qc7 l (Vs l k) k)
@[simp] theorem Ti (l : Zj) (k : Nat) : (Vs l k).length = 64 := by
 induction k with
 | zero => simp [Vs]
 | succ k ih => simp [Vs, ih]
theorem Qgk (l : Zj) : ∀ (k j : Nat), k ≤ j → (Vs l k).getD j 0 = 0 := by
 intro k
 induction k with
 | zero =>
  intro j _
  simp only [Vs, List.getD_eq_getElem?_getD, List.getElem?_replicate]
  split <;> rfl
 | succ k ih =>
  intro j h
  have := ih j oM
  simp only [Vs, List.getD_eq_getElem?_getD, List.getElem?_set] at this ⊢
  rw [if_neg oM]; exact this
theorem Eb {α : Type} (l : List α) (k : Nat) (a z : α) (h : k < l.length) : (l.set k a).getD k z = a := by simp [List.getD_eq_getElem?_getD, h]
theorem Qjm (l : Zj) (k : Nat) (h : k < 16) (a b c d : BitVec 8) (ha : a = l.getD (4 * k) 0) (hb : b = l.getD (4 * k + 1) 0) (hc : c = l.getD (4 * k + 2) 0) (hd : d = l.getD (4 * k + 3) 0) (w : List (BitVec 32)) (hw : w = Vs l k) :
  (((w.set k (w.getD k 0 <<< 8 ||| a.setWidth 32)).set k ((w.set k (w.getD k 0 <<< 8 ||| a.setWidth 32)).getD k 0 <<< 8 ||| b.setWidth 32)).set k
   (((w.set k (w.getD k 0 <<< 8 ||| a.setWidth 32)).set k ((w.set k (w.getD k 0 <<< 8 ||| a.setWidth 32)).getD k 0 <<< 8 ||| b.setWidth 32)).getD k 0 <<< 8 ||| c.setWidth 32)).set k
   ((((w.set k (w.getD k 0 <<< 8 ||| a.setWidth 32)).set k ((w.set k (w.getD k 0 <<< 8 ||| a.setWidth 32)).getD k 0 <<< 8 ||| b.setWidth 32)).set k
   (((w.set k (w.getD k 0 <<< 8 ||| a.setWidth 32)).set k ((w.set k (w.getD k 0 <<< 8 ||| a.setWidth 32)).getD k 0 <<< 8 ||| b.setWidth 32)).getD k 0 <<< 8 ||| c.setWidth 32)).getD k 0 <<< 8 ||| d.setWidth 32) = Vs l (k + 1) := by
 subst hw ha hb hc hd
 simp only [Vs, List.set_set]
 rw [Eb _ _ _ _ (by simp; omega), Eb _ _ _ _ (by simp; omega), Eb _ _ _ _ (by simp; omega), Qgk l k k (Nat.le_refl _)]
 unfold Qc7
 rw [if_pos h]; rfl
theorem Qk1 (l : Zj) (k : Nat) (h : ¬ k < 16) (h2 : k < 64) (w : List (BitVec 32)) (hw : w = Vs l k) (A B C : BitVec 32)
  (hA : A = w.getD (k - 16) 0 + w.getD (k - 7) 0) (hB : B = (Qn (w.getD (k - 15) 0) (-7) ^^^ Qn (w.getD (k - 15) 0) (-18)) ^^^ (w.getD (k - 15) 0) >>> 3)
  (hC : C = (Qn (w.getD (k - 2) 0) (-17) ^^^ Qn (w.getD (k - 2) 0) (-19)) ^^^ (w.getD (k - 2) 0) >>> 10) :
  ((w.set k A).set k ((w.set k A).getD k 0 + B)).set k (((w.set k A).set k ((w.set k A).getD k 0 + B)).getD k 0 + C) = Vs l (k + 1) := by
 subst hw hA hB hC
 simp only [Vs, List.set_set]
 rw [Eb _ _ _ _ (by simp; omega), Eb _ _ _ _ (by simp; omega)]
 unfold Qc7
 rw [if_neg h]
theorem Ht (l : Zj) (k : Nat) (h : 4 * k + 4 ≤ l.length) : (l.drop (4 * (k : Int)).toNat).take ((4 * (k : Int) + 4).toNat - (4 * (k : Int)).toNat) = [l.getD (4 * k) 0, l.getD (4 * k + 1) 0, l.getD (4 * k + 2) 0, l.getD (4 * k + 3) 0] := by
 have e1 : (4 * (k : Int)).toNat = 4 * k := by omega
 have e2 : (4 * (k : Int) + 4).toNat - (4 * (k : Int)).toNat = 4 := by omega
 rw [e2, e1]
 refine List.ext_getElem (by simp; omega) fun i h1 h2 => ?_
 simp only [List.length_cons, List.length_nil] at h2
 have : i = 0 ∨ i = 1 ∨ i = 2 ∨ i = 3 := by omega
 rcases this with rfl | rfl | rfl | rfl <;> simp [List.getD_eq_getElem?_getD] <;> rw [List.getElem?_eq_getElem oM] <;> rfl
def Fv (l : Zj) : List (BitVec 32) := Vs l 64
@[simp] theorem schedP_length (l : Zj) : (Fv l).length = 64 := Ti l 64
def rnd (w t : BitVec 32) : List (BitVec 32) → List (BitVec 32)
 | [a, z, c, e, f, g, h, k] =>
  let t1 := (((k + w) + t) + ((f &&& g) ^^^ (~~~f &&& h))) + ((Qn f (-6) ^^^ Qn f (-11)) ^^^ Qn f (-25))
  let u := (((a &&& z) ^^^ (a &&& c)) ^^^ (z &&& c)) + ((Qn a (-2) ^^^ Qn a (-13)) ^^^ Qn a (-22))
  [t1 + u, a, z, c, e + t1, f, g, h]
 | l => l
def Qc9 (wl : List (BitVec 32)) : Nat → List (BitVec 32) → List (BitVec 32)
 | 0, s => s
 | k + 1, s => rnd (wl.getD k 0) (Qbn.getD k 0) (Qc9 wl k s)
def Qgy (h : List (BitVec 32)) (l : Zj) : List (BitVec 32) := List.zipWith (· + ·) h (Qc9 (Fv l) 64 h)
theorem c_hnew  (w0 : World)  (hT : Tabs (Yn w0)) : Xm prog 84 #[] w0 (fun r w1 => ∃ b, r = ptr b 0 ∧ Mem w1 (Qu w0) [(b, .cells #[(u32 1779033703#32), (u32 3144134277#32), (u32 1013904242#32), (u32 2773480762#32), (u32 1359893119#32), (u32 2600822924#32), (u32 528734635#32), (u32 1541459225#32), Jp, (u64 0#64)] 154 (0, 0))]) := by
 refine Qy (args := []) func84 rfl ntmps84 results84 rfl ?_
 have m0 : Mem w0 (Qu w0) [] := Mem.of_world w0
 obtain ⟨Es, fzs, hTs⟩ := hT.start
 obtain ⟨Er, fzr, hTr⟩ := hT.round
 refine sR <| Zv (Value.pointer none) ?_
 refine rN (sR ?_)
 refine Qd (Qw W9 rfl V3 rfl (m0.rest _ _ hTs) sZ) <| Qd (Ky (c := #[(u32 1779033703#32), (u32 3144134277#32), (u32 1013904242#32), (u32 2773480762#32), (u32 1359893119#32), (u32 2600822924#32), (u32 528734635#32), (u32 1541459225#32), Jp, (u64 0)]) (pl := [(0, 8), (8, 1), (9, 1)]) Qe8 Jf Xh (Yx (i := 0) (v := (agg u32 ([1779033703#32, 3144134277#32, 1013904242#32, 2773480762#32, 1359893119#32, 2600822924#32, 528734635#32, 1541459225#32]))) (cs := (cl u32 ([1779033703#32, 3144134277#32, 1013904242#32, 2773480762#32, 1359893119#32, 2600822924#32, 528734635#32, 1541459225#32]))) rfl rfl V5) Xh) <| Y5 (Uk (cs := #[(u32 1779033703#32), (u32 3144134277#32), (u32 1013904242#32), (u32 2773480762#32), (u32 1359893119#32), (u32 2600822924#32), (u32 528734635#32), (u32 1541459225#32), Jp, (u64 0)]) m0 rfl) fun w1 b3 m1 => Zv (ptr b3 0) ?_
 refine rN (Zy ?_)
 refine Qs [(ptr b3 0)] ⟨rfl, trivial⟩ ?_
 exact ⟨b3, rfl, m1⟩
theorem Qlz (vb : Value) (l : Zj) (w0 : World)  (hr : Rd (Yn w0) u8 vb l) (hl : l.length = 64) : Xm prog 111 #[vb] w0 (fun r w1 => r = (agg u32 (Fv l)) ∧ Ext w0 w1) := by
 refine Qy (args := [vb]) func111 rfl ntmps111 results111 rfl ?_
 have m0 : Mem w0 (Qu w0) [] := Mem.of_world w0
 refine sR <| Y5 (Zf m0 ti160) fun w1 b2 m1 => ?_
 refine rN (Qc (sR ?_))
 refine Zb (i64 0) ?_
 refine rN (Qj ?_)
 refine Jq (fun g wv => ∃ (k : Nat) (wl : List (BitVec 32)), (k ≤ 64) ∧ (wl = Vs l k) ∧ g 0 = vb ∧ g 2 = (ptr b2 0) ∧ g 8 = (i64 (k : Int)) ∧ Mem wv (Qu w0) [(b2, .cells (cl u32 wl) 160 (0, 0))]) (fun g wv => (64 - RowKit.intOf (g 8)).toNat) ?_ ?_
 ·exact ⟨0, _, oM, rfl, rfl, rfl, rfl, m1⟩
 rintro fr2 w3 ⟨k, wl, hk1, hw, s0, s2, s8, m3⟩
 have z8 := s8
 have hwl : wl.length = 64 := by rw [hw]; simp
 refine sR <| Qd (Xy (b := 64) s8 rfl) ?_
 refine rN (Qc ?_)
 refine Xb rfl (fun hc4 => ?_) (fun hc4 => ?_)
 ·
  have hc4p := of_decide_eq_true hc4
  refine Qo (Qa (Qc (Qj (sR ?_))))
  refine Yk s8 <| Zv (i64 (k : Int)) ?_
  refine rN (Qc (sR ?_))
  refine Zb (i64 (k : Int)) <| Qd (Xy (b := 16) rfl rfl) <| rN ?_
  refine Xb rfl (fun hc5 => ?_) (fun hc5 => ?_)
  ·
   have hc5p := of_decide_eq_true hc5
   refine Qc (sR ?_)
   refine Yk s0 <| Zb (i64 (k : Int)) <| Qd (Cj (a := 4) rfl rfl oM oM) <| Zb (i64 (k : Int)) <| Qd (Cj (a := 4) rfl rfl oM oM) <| Qd (Z9 (b := 4) rfl rfl oM oM) <| Qd (Yv (i := 4 * (k : Int)) (j := 4 * (k : Int) + 4) (Rd.ofRest hr m3) Zx Yw rfl (Xv (k := .i64) (i := 4 * (k : Int)) rfl) (Xv (k := .i64) (i := 4 * (k : Int) + 4) rfl) oM oM oM) <| Qd (Yg (l := [l.getD (4 * k) 0, l.getD (4 * k + 1) 0, l.getD (4 * k + 2) 0, l.getD (4 * k + 3) 0]) (Rd.cast (Rd.sub (Rd.ofRest hr m3) oM oM oM) (Ht l k oM)) Zx rfl) <| Zb (i64 0) ?_
   refine rN (Qj ?_)
   refine Wu 5 ?_
   refine Zh (sR ?_)
   refine Qd (X5 0 4) ?_
   refine rN (Qc ?_)
   refine Qx rfl Yh ?_
   refine Qo (Qa (Qc (Qj (sR ?_))))
   refine Qd (Xr (i := 0) (Rd.cast (Rd.sub (Rd.ofRest hr m3) oM oM oM) (Ht l k oM)) Zx Yw rfl rfl oM Xk) <| Qd (v := (u8 (l.getD (4 * k) 0))) (Y4 (l := [l.getD (4 * k) 0, l.getD (4 * k + 1) 0, l.getD (4 * k + 2) 0, l.getD (4 * k + 3) 0]) (i := 0) (dflt := 0) (Rd.cast (Rd.sub (Rd.ofRest hr m3) oM oM oM) (Ht l k oM)) Uu rfl oM Xk rfl) <| Zv (u8 (l.getD (4 * k) 0)) ?_
   refine rN (Qb ?_)
   refine Zb (i64 (k : Int)) <| Zb (i64 (k : Int)) <| Qd (Xc (r := k) oM F7 Zn s2 rfl oM sD) <| Qd (Ql Yi rfl rfl m3.h0 (Qv _ _ 0 sD)) <| Qd (Um (b := 8) rfl rfl oM) <| Zb (u8 (l.getD (4 * k) 0)) <| Qd (Vk ⟨_, Uu⟩ Yi rfl) <| Qd (Fh rfl rfl) <| Qd (Xc (r := k) oM F7 Zn s2 rfl oM sD) <| Yb m3 (X9 (f := u32) (a := ((wl.getD k 0) <<< 8) ||| ((l.getD (4 * k) 0).setWidth 32)) Xa Zn rfl rfl m3.h0 sD (.inl (Nat.zero_le _))) fun w6 m6 => ?_
   refine Zo (Qh (Qb ?_))
   refine Qd (v := (i64 1)) (Xd 0 1) <| Zb (i64 1) ?_
   refine rN (Zh (sR ?_))
   refine Qd (X5 1 4) ?_
   refine rN (Qc ?_)
   refine Qx rfl Yh ?_
   refine Qo (Qa (Qc (Qj (sR ?_))))
   refine Qd (Xr (i := 1) (Rd.cast (Rd.sub (Rd.ofRest hr m6) oM oM oM) (Ht l k oM)) Zx Yw rfl rfl oM Xk) <| Qd (v := (u8 (l.getD (4 * k + 1) 0))) (Y4 (l := [l.getD (4 * k) 0, l.getD (4 * k + 1) 0, l.getD (4 * k + 2) 0, l.getD (4 * k + 3) 0]) (i := 1) (dflt := 0) (Rd.cast (Rd.sub (Rd.ofRest hr m6) oM oM oM) (Ht l k oM)) Uu rfl oM Xk rfl) <| Zv (u8 (l.getD (4 * k + 1) 0)) ?_
   refine rN (Qb ?_)
   refine Zb (i64 (k : Int)) <| Zb (i64 (k : Int)) <| Qd (Xc (r := k) oM F7 Zn s2 rfl oM sD) <| Qd (Ql Yi rfl rfl m6.h0 (Qv _ _ 0 sD)) <| Qd (Um (b := 8) rfl rfl oM) <| Zb (u8 (l.getD (4 * k + 1) 0)) <| Qd (Vk ⟨_, Uu⟩ Yi rfl) <| Qd (Fh rfl rfl) <| Qd (Xc (r := k) oM F7 Zn s2 rfl oM sD) <| Yb m6 (X9 (f := u32) (a := (((wl.set k (((wl.getD k 0) <<< 8) ||| ((l.getD (4 * k) 0).setWidth 32))).getD k 0) <<< 8) ||| ((l.getD (4 * k + 1) 0).setWidth 32)) Xa Zn rfl rfl m6.h0 sD (.inl (Nat.zero_le _))) fun w7 m7 => ?_
   refine Zo (Qh (Qb ?_))
   refine Qd (v := (i64 2)) (Xd 1 1) <| Zb (i64 2) ?_
   refine rN (Zh (sR ?_))
   refine Qd (X5 2 4) ?_
   refine rN (Qc ?_)
   refine Qx rfl Yh ?_
   refine Qo (Qa (Qc (Qj (sR ?_))))
   refine Qd (Xr (i := 2) (Rd.cast (Rd.sub (Rd.ofRest hr m7) oM oM oM) (Ht l k oM)) Zx Yw rfl rfl oM Xk) <| Qd (v := (u8 (l.getD (4 * k + 2) 0))) (Y4 (l := [l.getD (4 * k) 0, l.getD (4 * k + 1) 0, l.getD (4 * k + 2) 0, l.getD (4 * k + 3) 0]) (i := 2) (dflt := 0) (Rd.cast (Rd.sub (Rd.ofRest hr m7) oM oM oM) (Ht l k oM)) Uu rfl oM Xk rfl) <| Zv (u8 (l.getD (4 * k + 2) 0)) ?_
   refine rN (Qb ?_)
   refine Zb (i64 (k : Int)) <| Zb (i64 (k : Int)) <| Qd (Xc (r := k) oM F7 Zn s2 rfl oM sD) <| Qd (Ql Yi rfl rfl m7.h0 (Qv _ _ 0 sD)) <| Qd (Um (b := 8) rfl rfl oM) <| Zb (u8 (l.getD (4 * k + 2) 0)) <| Qd (Vk ⟨_, Uu⟩ Yi rfl) <| Qd (Fh rfl rfl) <| Qd (Xc (r := k) oM F7 Zn s2 rfl oM sD) <| Yb m7 (X9 (f := u32) (a := ((((wl.set k (((wl.getD k 0) <<< 8) ||| ((l.getD (4 * k) 0).setWidth 32))).set k ((((wl.set k (((wl.getD k 0) <<< 8) ||| ((l.getD (4 * k) 0).setWidth 32))).getD k 0) <<< 8) ||| ((l.getD (4 * k + 1) 0).setWidth 32))).getD k 0) <<< 8) ||| ((l.getD (4 * k + 2) 0).setWidth 32)) Xa Zn rfl rfl m7.h0 sD (.inl (Nat.zero_le _))) fun w8 m8 => ?_
   refine Zo (Qh (Qb ?_))
   refine Qd (v := (i64 3)) (Xd 2 1) <| Zb (i64 3) ?_
   refine rN (Zh (sR ?_))
   refine Qd (X5 3 4) ?_
   refine rN (Qc ?_)
   refine Qx rfl Yh ?_
   refine Qo (Qa (Qc (Qj (sR ?_))))
   refine Qd (Xr (i := 3) (Rd.cast (Rd.sub (Rd.ofRest hr m8) oM oM oM) (Ht l k oM)) Zx Yw rfl rfl oM Xk) <| Qd (v := (u8 (l.getD (4 * k + 3) 0))) (Y4 (l := [l.getD (4 * k) 0, l.getD (4 * k + 1) 0, l.getD (4 * k + 2) 0, l.getD (4 * k + 3) 0]) (i := 3) (dflt := 0) (Rd.cast (Rd.sub (Rd.ofRest hr m8) oM oM oM) (Ht l k oM)) Uu rfl oM Xk rfl) <| Zv (u8 (l.getD (4 * k + 3) 0)) ?_
   refine rN (Qb ?_)
   refine Zb (i64 (k : Int)) <| Zb (i64 (k : Int)) <| Qd (Xc (r := k) oM F7 Zn s2 rfl oM sD) <| Qd (Ql Yi rfl rfl m8.h0 (Qv _ _ 0 sD)) <| Qd (Um (b := 8) rfl rfl oM) <| Zb (u8 (l.getD (4 * k + 3) 0)) <| Qd (Vk ⟨_, Uu⟩ Yi rfl) <| Qd (Fh rfl rfl) <| Qd (Xc (r := k) oM F7 Zn s2 rfl oM sD) <| Yb m8 (X9 (f := u32) (a := (((((wl.set k (((wl.getD k 0) <<< 8) ||| ((l.getD (4 * k) 0).setWidth 32))).set k ((((wl.set k (((wl.getD k 0) <<< 8) ||| ((l.getD (4 * k) 0).setWidth 32))).getD k 0) <<< 8) ||| ((l.getD (4 * k + 1) 0).setWidth 32))).set k (((((wl.set k (((wl.getD k 0) <<< 8) ||| ((l.getD (4 * k) 0).setWidth 32))).set k ((((wl.set k (((wl.getD k 0) <<< 8) ||| ((l.getD (4 * k) 0).setWidth 32))).getD k 0) <<< 8) ||| ((l.getD (4 * k + 1) 0).setWidth 32))).getD k 0) <<< 8) ||| ((l.getD (4 * k + 2) 0).setWidth 32))).getD k 0) <<< 8) ||| ((l.getD (4 * k + 3) 0).setWidth 32)) Xa Zn rfl rfl m8.h0 sD (.inl (Nat.zero_le _))) fun w9 m9 => ?_
   refine Zo (Qh (Qb ?_))
   refine Qd (v := (i64 4)) (Xd 3 1) <| Zb (i64 4) ?_
   refine rN (Zh (sR ?_))
   refine Qd (X5 4 4) ?_
   refine rN (Qc ?_)
   refine Ym rfl Yh <| Yc ?_
   refine Qr (Qr (Xp ?_))
   refine Yc ?_
   refine Qr (Xp ?_)
   refine Qb <| Qd (Z9 (b := 1) s8 rfl oM oM) <| Zb (i64 ((k : Int) + 1)) <| rN ?_
   have hwn : (((wl.set k (((wl.getD k 0) <<< 8) ||| ((l.getD (4 * k) 0).setWidth 32))).set k ((((wl.set k (((wl.getD k 0) <<< 8) ||| ((l.getD (4 * k) 0).setWidth 32))).getD k 0) <<< 8) ||| ((l.getD (4 * k + 1) 0).setWidth 32))).set k (((((wl.set k (((wl.getD k 0) <<< 8) ||| ((l.getD (4 * k) 0).setWidth 32))).set k ((((wl.set k (((wl.getD k 0) <<< 8) ||| ((l.getD (4 * k) 0).setWidth 32))).getD k 0) <<< 8) ||| ((l.getD (4 * k + 1) 0).setWidth 32))).getD k 0) <<< 8) ||| ((l.getD (4 * k + 2) 0).setWidth 32))).set k ((((((wl.set k (((wl.getD k 0) <<< 8) ||| ((l.getD (4 * k) 0).setWidth 32))).set k ((((wl.set k (((wl.getD k 0) <<< 8) ||| ((l.getD (4 * k) 0).setWidth 32))).getD k 0) <<< 8) ||| ((l.getD (4 * k + 1) 0).setWidth 32))).set k (((((wl.set k (((wl.getD k 0) <<< 8) ||| ((l.getD (4 * k) 0).setWidth 32))).set k ((((wl.set k (((wl.getD k 0) <<< 8) ||| ((l.getD (4 * k) 0).setWidth 32))).getD k 0) <<< 8) ||| ((l.getD (4 * k + 1) 0).setWidth 32))).getD k 0) <<< 8) ||| ((l.getD (4 * k + 2) 0).setWidth 32))).getD k 0) <<< 8) ||| ((l.getD (4 * k + 3) 0).setWidth 32)) = Vs l (k + 1) := by
    exact Qjm l k oM (l.getD (4 * k) 0) (l.getD (4 * k + 1) 0) (l.getD (4 * k + 2) 0) (l.getD (4 * k + 3) 0) rfl rfl rfl rfl wl hw
   exact ⟨⟨k + 1, (((wl.set k (((wl.getD k 0) <<< 8) ||| ((l.getD (4 * k) 0).setWidth 32))).set k ((((wl.set k (((wl.getD k 0) <<< 8) ||| ((l.getD (4 * k) 0).setWidth 32))).getD k 0) <<< 8) ||| ((l.getD (4 * k + 1) 0).setWidth 32))).set k (((((wl.set k (((wl.getD k 0) <<< 8) ||| ((l.getD (4 * k) 0).setWidth 32))).set k ((((wl.set k (((wl.getD k 0) <<< 8) ||| ((l.getD (4 * k) 0).setWidth 32))).getD k 0) <<< 8) ||| ((l.getD (4 * k + 1) 0).setWidth 32))).getD k 0) <<< 8) ||| ((l.getD (4 * k + 2) 0).setWidth 32))).set k ((((((wl.set k (((wl.getD k 0) <<< 8) ||| ((l.getD (4 * k) 0).setWidth 32))).set k ((((wl.set k (((wl.getD k 0) <<< 8) ||| ((l.getD (4 * k) 0).setWidth 32))).getD k 0) <<< 8) ||| ((l.getD (4 * k + 1) 0).setWidth 32))).set k (((((wl.set k (((wl.getD k 0) <<< 8) ||| ((l.getD (4 * k) 0).setWidth 32))).set k ((((wl.set k (((wl.getD k 0) <<< 8) ||| ((l.getD (4 * k) 0).setWidth 32))).getD k 0) <<< 8) ||| ((l.getD (4 * k + 1) 0).setWidth 32))).getD k 0) <<< 8) ||| ((l.getD (4 * k + 2) 0).setWidth 32))).getD k 0) <<< 8) ||| ((l.getD (4 * k + 3) 0).setWidth 32)), oM, hwn, s0, s2, rfl, m9⟩, Am rfl z8 oM oM⟩
  ·
   have hc5p := of_decide_eq_false hc5
   refine Qo (Qa (Qc ?_))
   refine Xj (dl 9) 9 Xh <| Jj rfl (i64 (k : Int)) <| Xq rfl (Kw (b := 15) rfl rfl oM oM) <| Xq rfl (Xc (r := ((k : Int) - 15 : Int).toNat) oM F7 Zn s2 rfl oM sD) <| Y6 (v := (u32 (wl.getD (((k : Int) - 15 : Int).toNat) 0))) rfl (fun _ e' => Ql Yi rfl rfl (m3.ext e').h0 (Qv _ _ 0 sD)) <| Jj rfl (i64 (k : Int)) <| Xq rfl (Kw (b := 2) rfl rfl oM oM) <| Xq rfl (Xc (r := ((k : Int) - 2 : Int).toNat) oM F7 Zn s2 rfl oM sD) <| Y6 (v := (u32 (wl.getD (((k : Int) - 2 : Int).toNat) 0))) rfl (fun _ e' => Ql Yi rfl rfl (m3.ext e').h0 (Qv _ _ 0 sD)) <| Xq rfl (Gi (v := (u32 (wl.getD (((k : Int) - 15 : Int).toNat) 0))) rfl) <| Ug m3 fun w10 m10 => Zv (u32 (wl.getD (((k : Int) - 2 : Int).toNat) 0)) ?_
   refine rN (Qc ?_)
   refine Xj (dl 10) 10 Xh <| Jj rfl (i64 (k : Int)) <| Jj rfl (i64 (k : Int)) <| Xq rfl (Kw (b := 16) rfl rfl oM oM) <| Xq rfl (Xc (r := ((k : Int) - 16 : Int).toNat) oM F7 Zn s2 rfl oM sD) <| Y6 (v := (u32 (wl.getD (((k : Int) - 16 : Int).toNat) 0))) rfl (fun _ e' => Ql Yi rfl rfl (m10.ext e').h0 (Qv _ _ 0 sD)) <| Jj rfl (i64 (k : Int)) <| Xq rfl (Kw (b := 7) rfl rfl oM oM) <| Xq rfl (Xc (r := ((k : Int) - 7 : Int).toNat) oM F7 Zn s2 rfl oM sD) <| Y6 (v := (u32 (wl.getD (((k : Int) - 7 : Int).toNat) 0))) rfl (fun _ e' => Ql Yi rfl rfl (m10.ext e').h0 (Qv _ _ 0 sD)) <| Xq rfl (Yr rfl rfl) <| Ug m10 fun w11 m11 => Qd (Xc (r := k) oM F7 Zn s2 rfl oM sD) <| Yb m11 (X9 (f := u32) (a := (wl.getD (((k : Int) - 16 : Int).toNat) 0) + (wl.getD (((k : Int) - 7 : Int).toNat) 0)) Xa Zn rfl rfl m11.h0 sD (.inl (Nat.zero_le _))) fun w12 m12 => ?_
   refine rN (Qc ?_)
   refine Xj (dl 11) 11 Xh <| Jj rfl (i64 (k : Int)) <| Xq rfl (Xc (r := k) oM F7 Zn s2 rfl oM sD) <| Y6 rfl (fun _ e' => Ql Yi rfl rfl (m12.ext e').h0 (Qv _ _ 0 sD)) <| Jj rfl (u32 (wl.getD (((k : Int) - 15 : Int).toNat) 0)) <| U4 (v := (u32 (Qn (wl.getD (((k : Int) - 15 : Int).toNat) 0) ((-7) : Int)))) rfl rfl (fun w13 _ew13 => J8.mono (Nb (X3 rfl rfl) (Gs (wl.getD (((k : Int) - 15 : Int).toNat) 0) _ _)) (by rintro _ w14 ⟨rfl, rfl⟩; exact ⟨rfl, Ext.refl _⟩)) <| Jj rfl (u32 (wl.getD (((k : Int) - 15 : Int).toNat) 0)) <| U4 (v := (u32 (Qn (wl.getD (((k : Int) - 15 : Int).toNat) 0) ((-18) : Int)))) rfl rfl (fun w16 _ew16 => J8.mono (Nb (X3 rfl rfl) (Gs (wl.getD (((k : Int) - 15 : Int).toNat) 0) _ _)) (by rintro _ w17 ⟨rfl, rfl⟩; exact ⟨rfl, Ext.refl _⟩)) <| Xq rfl (Kv rfl rfl) <| Jj rfl (u32 (wl.getD (((k : Int) - 15 : Int).toNat) 0)) <| Xq rfl (Lp (b := 3) rfl rfl oM) <| Xq rfl (Kv rfl rfl) ?_
   refine Ug m12 fun w19 m19 => Qd (Yr rfl rfl) <| Qd (Xc (r := k) oM F7 Zn s2 rfl oM sD) <| Yb m19 (X9 (f := u32) (a := ((wl.set k ((wl.getD (((k : Int) - 16 : Int).toNat) 0) + (wl.getD (((k : Int) - 7 : Int).toNat) 0))).getD k 0) + (((Qn (wl.getD (((k : Int) - 15 : Int).toNat) 0) ((-7) : Int)) ^^^ (Qn (wl.getD (((k : Int) - 15 : Int).toNat) 0) ((-18) : Int))) ^^^ ((wl.getD (((k : Int) - 15 : Int).toNat) 0) >>> 3))) Xa Zn rfl rfl m19.h0 sD (.inl (Nat.zero_le _))) fun w20 m20 => rN <| Xj (dl 11) 11 Xh <| Jj rfl (i64 (k : Int)) <| Xq rfl (Xc (r := k) oM F7 Zn s2 rfl oM sD) <| Y6 rfl (fun _ e' => Ql Yi rfl rfl (m20.ext e').h0 (Qv _ _ 0 sD)) <| Jj rfl (u32 (wl.getD (((k : Int) - 2 : Int).toNat) 0)) ?_
   refine U4 (v := (u32 (Qn (wl.getD (((k : Int) - 2 : Int).toNat) 0) ((-17) : Int)))) rfl rfl (fun w21 _ew21 => J8.mono (Nb (X3 rfl rfl) (Gs (wl.getD (((k : Int) - 2 : Int).toNat) 0) _ _)) (by rintro _ w22 ⟨rfl, rfl⟩; exact ⟨rfl, Ext.refl _⟩)) <| Jj rfl (u32 (wl.getD (((k : Int) - 2 : Int).toNat) 0)) <| U4 (v := (u32 (Qn (wl.getD (((k : Int) - 2 : Int).toNat) 0) ((-19) : Int)))) rfl rfl (fun w24 _ew24 => J8.mono (Nb (X3 rfl rfl) (Gs (wl.getD (((k : Int) - 2 : Int).toNat) 0) _ _)) (by rintro _ w25 ⟨rfl, rfl⟩; exact ⟨rfl, Ext.refl _⟩)) <| Xq rfl (Kv rfl rfl) <| Jj rfl (u32 (wl.getD (((k : Int) - 2 : Int).toNat) 0)) <| Xq rfl (Lp (b := 10) rfl rfl oM) <| Xq rfl (Kv rfl rfl) <| Ug m20 fun w27 m27 => Qd (Yr rfl rfl) <| Qd (Xc (r := k) oM F7 Zn s2 rfl oM sD) <| Yb m27 (X9 (f := u32) (a := (((wl.set k ((wl.getD (((k : Int) - 16 : Int).toNat) 0) + (wl.getD (((k : Int) - 7 : Int).toNat) 0))).set k (((wl.set k ((wl.getD (((k : Int) - 16 : Int).toNat) 0) + (wl.getD (((k : Int) - 7 : Int).toNat) 0))).getD k 0) + (((Qn (wl.getD (((k : Int) - 15 : Int).toNat) 0) ((-7) : Int)) ^^^ (Qn (wl.getD (((k : Int) - 15 : Int).toNat) 0) ((-18) : Int))) ^^^ ((wl.getD (((k : Int) - 15 : Int).toNat) 0) >>> 3)))).getD k 0) + (((Qn (wl.getD (((k : Int) - 2 : Int).toNat) 0) ((-17) : Int)) ^^^ (Qn (wl.getD (((k : Int) - 2 : Int).toNat) 0) ((-19) : Int))) ^^^ ((wl.getD (((k : Int) - 2 : Int).toNat) 0) >>> 10))) Xa Zn rfl rfl m27.h0 sD (.inl (Nat.zero_le _))) fun w28 m28 => ?_
   refine Zo (Qh (Qb ?_))
   refine Qd (Z9 (b := 1) s8 rfl oM oM) <| Zb (i64 ((k : Int) + 1)) <| rN ?_
   have hwn : ((wl.set k ((wl.getD (((k : Int) - 16 : Int).toNat) 0) + (wl.getD (((k : Int) - 7 : Int).toNat) 0))).set k (((wl.set k ((wl.getD (((k : Int) - 16 : Int).toNat) 0) + (wl.getD (((k : Int) - 7 : Int).toNat) 0))).getD k 0) + (((Qn (wl.getD (((k : Int) - 15 : Int).toNat) 0) ((-7) : Int)) ^^^ (Qn (wl.getD (((k : Int) - 15 : Int).toNat) 0) ((-18) : Int))) ^^^ ((wl.getD (((k : Int) - 15 : Int).toNat) 0) >>> 3)))).set k ((((wl.set k ((wl.getD (((k : Int) - 16 : Int).toNat) 0) + (wl.getD (((k : Int) - 7 : Int).toNat) 0))).set k (((wl.set k ((wl.getD (((k : Int) - 16 : Int).toNat) 0) + (wl.getD (((k : Int) - 7 : Int).toNat) 0))).getD k 0) + (((Qn (wl.getD (((k : Int) - 15 : Int).toNat) 0) ((-7) : Int)) ^^^ (Qn (wl.getD (((k : Int) - 15 : Int).toNat) 0) ((-18) : Int))) ^^^ ((wl.getD (((k : Int) - 15 : Int).toNat) 0) >>> 3)))).getD k 0) + (((Qn (wl.getD (((k : Int) - 2 : Int).toNat) 0) ((-17) : Int)) ^^^ (Qn (wl.getD (((k : Int) - 2 : Int).toNat) 0) ((-19) : Int))) ^^^ ((wl.getD (((k : Int) - 2 : Int).toNat) 0) >>> 10))) = Vs l (k + 1) := by
    have e16 : ((k : Int) - 16).toNat = k - 16 := by omega
    have e7 : ((k : Int) - 7).toNat = k - 7 := by omega
    have e15 : ((k : Int) - 15).toNat = k - 15 := by omega
    have e2 : ((k : Int) - 2).toNat = k - 2 := by omega
    rw [e16, e7, e15, e2]
    exact Qk1 l k oM oM wl hw _ _ _ rfl rfl rfl
   exact ⟨⟨k + 1, ((wl.set k ((wl.getD (((k : Int) - 16 : Int).toNat) 0) + (wl.getD (((k : Int) - 7 : Int).toNat) 0))).set k (((wl.set k ((wl.getD (((k : Int) - 16 : Int).toNat) 0) + (wl.getD (((k : Int) - 7 : Int).toNat) 0))).getD k 0) + (((Qn (wl.getD (((k : Int) - 15 : Int).toNat) 0) ((-7) : Int)) ^^^ (Qn (wl.getD (((k : Int) - 15 : Int).toNat) 0) ((-18) : Int))) ^^^ ((wl.getD (((k : Int) - 15 : Int).toNat) 0) >>> 3)))).set k ((((wl.set k ((wl.getD (((k : Int) - 16 : Int).toNat) 0) + (wl.getD (((k : Int) - 7 : Int).toNat) 0))).set k (((wl.set k ((wl.getD (((k : Int) - 16 : Int).toNat) 0) + (wl.getD (((k : Int) - 7 : Int).toNat) 0))).getD k 0) + (((Qn (wl.getD (((k : Int) - 15 : Int).toNat) 0) ((-7) : Int)) ^^^ (Qn (wl.getD (((k : Int) - 15 : Int).toNat) 0) ((-18) : Int))) ^^^ ((wl.getD (((k : Int) - 15 : Int).toNat) 0) >>> 3)))).getD k 0) + (((Qn (wl.getD (((k : Int) - 2 : Int).toNat) 0) ((-17) : Int)) ^^^ (Qn (wl.getD (((k : Int) - 2 : Int).toNat) 0) ((-19) : Int))) ^^^ ((wl.getD (((k : Int) - 2 : Int).toNat) 0) >>> 10))), oM, hwn, s0, s2, rfl, m28⟩, Am rfl z8 oM oM⟩
 ·
  have hc4p := of_decide_eq_false hc4
  obtain rfl : k = 64 := by omega
  have hwl : wl.length = 64 := by rw [hw, Ti]
  refine Yc ?_
  refine Qr (Qr (Xp ?_))
  refine sR <| Qd (Qw F7 rfl ti160 s2 m3.h0 sZ) <| Yb m3 (Qq (f := u32) (l := wl) Xa ti160 s2 rfl sD m3.h0 sZ rfl) fun w29 m29 => ?_
  refine rN (Zy ?_)
  refine Qs [(agg u32 wl)] ⟨⟨_, s2, Xi F7 rfl ti160 m29.h0 sZ⟩, trivial⟩ ?_
  exact ⟨congrArg (agg u32) hw, m29.toExt⟩
theorem c_take (bd : Nat) (x0 x1 x2 x3 x4 x5 x6 x7 : BitVec 32) (v : Value) (n : BitVec 64) (vb : Value) (l : Zj) (w0 : World) (R : Rest) (m0 : Mem w0 R [(bd, .cells #[(u32 x0), (u32 x1), (u32 x2), (u32 x3), (u32 x4), (u32 x5), (u32 x6), (u32 x7), v, (u64 n)] 154 (0, 0))]) (hT : Tabs R.blk) (hr : Rd R.blk u8 vb l) (hl : l.length = 64) : Xm prog 102 #[(ptr bd 0), vb] w0 (fun r w1 => ∃ y0 y1 y2 y3 y4 y5 y6 y7, [y0, y1, y2, y3, y4, y5, y6, y7] = Qgy [x0, x1, x2, x3, x4, x5, x6, x7] l ∧ Mem w1 R [(bd, .cells #[(u32 y0), (u32 y1), (u32 y2), (u32 y3), (u32 y4), (u32 y5), (u32 y6), (u32 y7), v, (u64 n)] 154 (0, 0))]) := by
 refine Qy (args := [(ptr bd 0), vb]) func102 rfl ntmps102 results102 rfl ?_
 obtain ⟨Es, fzs, hTs⟩ := hT.start
 obtain ⟨Er, fzr, hTr⟩ := hT.round
 refine Qc <| Xj (dl 47) 47 Xh <| Jj rfl (ptr bd 0) <| Xq rfl (Qm rfl) <| Xq rfl (Zd (r := 0) Jf rfl Yy V3 rfl rfl) <| Xq rfl (Xe 0 0 W9 Zn rfl) <| Y6 (v := (u32 x0)) rfl (fun _ e' => Ql Yi rfl rfl (m0.ext e').h0 rfl) <| Jj rfl (ptr bd 0) <| Xq rfl (Qm rfl) <| Xq rfl (Zd (r := 0) Jf rfl Yy V3 rfl rfl) <| Xq rfl (Xe 1 1 W9 Zn rfl) <| Y6 (v := (u32 x1)) rfl (fun _ e' => Ql Yi rfl rfl (m0.ext e').h0 rfl) ?_
 refine Jj rfl (ptr bd 0) <| Xq rfl (Qm rfl) <| Xq rfl (Zd (r := 0) Jf rfl Yy V3 rfl rfl) <| Xq rfl (Xe 2 2 W9 Zn rfl) <| Y6 (v := (u32 x2)) rfl (fun _ e' => Ql Yi rfl rfl (m0.ext e').h0 rfl) <| Jj rfl (ptr bd 0) <| Xq rfl (Qm rfl) <| Xq rfl (Zd (r := 0) Jf rfl Yy V3 rfl rfl) <| Xq rfl (Xe 3 3 W9 Zn rfl) <| Y6 (v := (u32 x3)) rfl (fun _ e' => Ql Yi rfl rfl (m0.ext e').h0 rfl) <| Jj rfl (ptr bd 0) <| Xq rfl (Qm rfl) ?_
 refine Xq rfl (Zd (r := 0) Jf rfl Yy V3 rfl rfl) <| Xq rfl (Xe 4 4 W9 Zn rfl) <| Y6 (v := (u32 x4)) rfl (fun _ e' => Ql Yi rfl rfl (m0.ext e').h0 rfl) <| Jj rfl (ptr bd 0) <| Xq rfl (Qm rfl) <| Xq rfl (Zd (r := 0) Jf rfl Yy V3 rfl rfl) <| Xq rfl (Xe 5 5 W9 Zn rfl) <| Y6 (v := (u32 x5)) rfl (fun _ e' => Ql Yi rfl rfl (m0.ext e').h0 rfl) <| Jj rfl (ptr bd 0) <| Xq rfl (Qm rfl) <| Xq rfl (Zd (r := 0) Jf rfl Yy V3 rfl rfl) <| Xq rfl (Xe 6 6 W9 Zn rfl) ?_
 refine Y6 (v := (u32 x6)) rfl (fun _ e' => Ql Yi rfl rfl (m0.ext e').h0 rfl) <| Jj rfl (ptr bd 0) <| Xq rfl (Qm rfl) <| Xq rfl (Zd (r := 0) Jf rfl Yy V3 rfl rfl) <| Xq rfl (Xe 7 7 W9 Zn rfl) <| Y6 (v := (u32 x7)) rfl (fun _ e' => Ql Yi rfl rfl (m0.ext e').h0 rfl) <| Xq rfl (Gi (v := (u32 x0)) rfl) <| Xq rfl (Gi (v := (u32 x1)) rfl) <| Xq rfl (Gi (v := (u32 x2)) rfl) <| Xq rfl (Gi (v := (u32 x3)) rfl) <| Xq rfl (Gi (v := (u32 x4)) rfl) <| Xq rfl (Gi (v := (u32 x5)) rfl) ?_
 refine Xq rfl (Gi (v := (u32 x6)) rfl) <| Ug m0 fun w1 m1 => Zv (u32 x7) ?_
 refine rN (Qc (sR ?_))
 refine Zb vb <| Dx m1 (oc111 (Jb rfl) (Qlz vb l _ (Rd.ofRest hr m1) sD)) fun w2 m2 => Zb (i64 0) ?_
 refine rN (Qj ?_)
 refine Jq (fun g wv => ∃ (k : Nat) (sa sz sc se sf sg sh sk : BitVec 32), (k ≤ 64) ∧ ([sa, sz, sc, se, sf, sg, sh, sk] = Qc9 (Fv l) k [x0, x1, x2, x3, x4, x5, x6, x7]) ∧ g 0 = (ptr bd 0) ∧ g 1 = vb ∧ g 4 = (u32 sa) ∧ g 5 = (u32 sz) ∧ g 6 = (u32 sc) ∧ g 7 = (u32 se) ∧ g 8 = (u32 sf) ∧ g 9 = (u32 sg) ∧ g 10 = (u32 sh) ∧ g 11 = (u32 sk) ∧ g 59 = (agg u32 (Fv l)) ∧ g 60 = (i64 (k : Int)) ∧ Mem wv R [(bd, .cells #[(u32 x0), (u32 x1), (u32 x2), (u32 x3), (u32 x4), (u32 x5), (u32 x6), (u32 x7), v, (u64 n)] 154 (0, 0))]) (fun g wv => (64 - RowKit.intOf (g 60)).toNat) ?_ ?_
 ·exact ⟨0, x0, x1, x2, x3, x4, x5, x6, x7, oM, rfl, rfl, rfl, rfl, rfl, rfl, rfl, rfl, rfl, rfl, rfl, rfl, rfl, m2⟩
 rintro fr4 w5 ⟨k, sa, sz, sc, se, sf, sg, sh, sk, hk1, hs, s0, s1, s4, s5, s6, s7, s8, s9, s10, s11, s59, s60, m5⟩
 have z60 := s60
 have z4 := s4
 have z5 := s5
 have z6 := s6
 have z7 := s7
 have z8 := s8
 have z9 := s9
 have z10 := s10
 have z11 := s11
 refine sR <| Qd (Xy (b := 64) s60 rfl) ?_
 refine rN (Qc ?_)
 refine Xb rfl (fun hc6 => ?_) (fun hc6 => ?_)
 ·
  have hc6p := of_decide_eq_true hc6
  refine Qo (Qa (Qc (Qj (sR ?_))))
  refine Yk s60 <| Qd (v := (u32 ((Fv l).getD k 0))) (X8 F7 Yi rfl Zn s59 s60 oM sD (Qv _ _ 0 sD)) <| Zv (i64 (k : Int)) <| Zv (u32 ((Fv l).getD k 0)) ?_
  refine rN (sR ?_)
  refine Yk s11 <| Zb (u32 ((Fv l).getD k 0)) <| Qd (Yr rfl rfl) <| Zb (i64 (k : Int)) <| Qd (Xc (r := k) oM F7 Zn rfl rfl oM sD) <| Qd (Ql Yi rfl rfl (m5.rest _ _ hTr) (Qv _ _ 0 sD)) <| Qd (Yr rfl rfl) <| Yk s8 <| Yk s9 <| Qd (Lr rfl rfl) <| Yk s8 <| Qd (Qll rfl) ?_
  refine Yk s10 <| Qd (Lr rfl rfl) <| Qd (Kv rfl rfl) <| Qd (Yr rfl rfl) <| Sv rfl ?_
  refine rN (sR ?_)
  refine Yk rfl <| Yk s8 <| G5 (Nb (X3 rfl rfl) (Gs sf _ _)) ?_
  rintro _ w7 ⟨rfl, rfl⟩
  refine Yk s8 <| G5 (Nb (X3 rfl rfl) (Gs sf _ _)) ?_
  rintro _ w9 ⟨rfl, rfl⟩
  refine Qd (Kv rfl rfl) <| Yk s8 <| G5 (Nb (X3 rfl rfl) (Gs sf _ _)) ?_
  rintro _ w11 ⟨rfl, rfl⟩
  refine Qd (Kv rfl rfl) <| Qd (Yr rfl rfl) <| Sv rfl ?_
  refine rN (sR ?_)
  refine Yk s4 <| Yk s5 <| Qd (Lr rfl rfl) <| Yk s4 <| Yk s6 <| Qd (Lr rfl rfl) <| Qd (Kv rfl rfl) <| Yk s5 <| Yk s6 <| Qd (Lr rfl rfl) <| Qd (Kv rfl rfl) <| Zv (u32 (((sa &&& sz) ^^^ (sa &&& sc)) ^^^ (sz &&& sc))) ?_
  refine rN (sR ?_)
  refine Zb (u32 (((sa &&& sz) ^^^ (sa &&& sc)) ^^^ (sz &&& sc))) <| Yk s4 <| G5 (Nb (X3 rfl rfl) (Gs sa _ _)) ?_
  rintro _ w13 ⟨rfl, rfl⟩
  refine Yk s4 <| G5 (Nb (X3 rfl rfl) (Gs sa _ _)) ?_
  rintro _ w15 ⟨rfl, rfl⟩
  refine Qd (Kv rfl rfl) <| Yk s4 <| G5 (Nb (X3 rfl rfl) (Gs sa _ _)) ?_
  rintro _ w17 ⟨rfl, rfl⟩
  refine Qd (Kv rfl rfl) <| Qd (Yr rfl rfl) <| Sv rfl ?_
  refine rN (Qb ?_)
  refine Yk s10 <| Yk s9 <| Yk s8 <| Yk s7 <| Yk rfl <| Qd (Yr rfl rfl) <| Yk s6 <| Yk s5 <| Yk s4 <| Yk rfl <| Yk rfl <| Qd (Yr rfl rfl) ?_
  refine Zv (u32 sh) <| Zv (u32 sg) <| Zv (u32 sf) <| Sv rfl <| Zv (u32 sc) <| Zv (u32 sz) <| Zv (u32 sa) <| Sv rfl ?_
  refine Zo (Qh (Qb ?_))
  refine Qd (Z9 (b := 1) s60 rfl oM oM) <| Zb (i64 ((k : Int) + 1)) <| rN ?_
  have hsn : [((((sk + ((Fv l).getD k 0)) + (Qbn.getD k 0)) + ((sf &&& sg) ^^^ ((~~~sf) &&& sh))) + (((Qn sf ((-6) : Int)) ^^^ (Qn sf ((-11) : Int))) ^^^ (Qn sf ((-25) : Int)))) + ((((sa &&& sz) ^^^ (sa &&& sc)) ^^^ (sz &&& sc)) + (((Qn sa ((-2) : Int)) ^^^ (Qn sa ((-13) : Int))) ^^^ (Qn sa ((-22) : Int)))), sa, sz, sc, se + ((((sk + ((Fv l).getD k 0)) + (Qbn.getD k 0)) + ((sf &&& sg) ^^^ ((~~~sf) &&& sh))) + (((Qn sf ((-6) : Int)) ^^^ (Qn sf ((-11) : Int))) ^^^ (Qn sf ((-25) : Int)))), sf, sg, sh] = Qc9 (Fv l) (k + 1) [x0, x1, x2, x3, x4, x5, x6, x7] := by show _ = rnd _ _ (Qc9 (Fv l) k [x0, x1, x2, x3, x4, x5, x6, x7]); rw [← hs]; rfl
  exact ⟨⟨k + 1, (((((sk + ((Fv l).getD k 0)) + (Qbn.getD k 0)) + ((sf &&& sg) ^^^ ((~~~sf) &&& sh))) + (((Qn sf ((-6) : Int)) ^^^ (Qn sf ((-11) : Int))) ^^^ (Qn sf ((-25) : Int)))) + ((((sa &&& sz) ^^^ (sa &&& sc)) ^^^ (sz &&& sc)) + (((Qn sa ((-2) : Int)) ^^^ (Qn sa ((-13) : Int))) ^^^ (Qn sa ((-22) : Int))))), sa, sz, sc, (se + ((((sk + ((Fv l).getD k 0)) + (Qbn.getD k 0)) + ((sf &&& sg) ^^^ ((~~~sf) &&& sh))) + (((Qn sf ((-6) : Int)) ^^^ (Qn sf ((-11) : Int))) ^^^ (Qn sf ((-25) : Int))))), sf, sg, sh, oM, hsn, s0, s1, rfl, rfl, rfl, rfl, rfl, rfl, rfl, rfl, s59, rfl, m5⟩, Am rfl z60 oM oM⟩
 ·
  have hc6p := of_decide_eq_false hc6
  obtain rfl : k = 64 := by omega
  refine Yc ?_
  refine Qr (Qr (Xp ?_))
  refine sR <| Yk s4 <| Yk s5 <| Yk s6 <| Yk s7 <| Yk s8 <| Yk s9 <| Yk s10 <| Yk s11 <| Qd (Vu u32 [sa, sz, sc, se, sf, sg, sh, sk] Xa V3 W9 Zn rfl rfl) <| Zb (i64 0) ?_
  refine rN (Df ?_)
  refine Wu 9 ?_
  refine Zh (sR ?_)
  refine Qd (X5 0 8) ?_
  refine rN (Qc ?_)
  refine Qx rfl Yh ?_
  refine Qo (Qa (Qc (Qj (sR ?_))))
  refine Zb (i64 0) <| Qd (v := (u32 sa)) (X8 (i := 0) W9 Yi rfl Zn rfl rfl oM sD (Qv _ _ 0 Xk)) <| Zv (i64 0) <| Zv (u32 sa) <| rN <| Xj (dl 10) 10 Xh <| yqE rfl s0 <| Jj rfl (i64 0) <| Xq rfl (Qm rfl) <| Xq rfl (Zd (r := 0) Jf rfl Yy V3 rfl rfl) <| Xq rfl (Xe 0 0 W9 Zn rfl) <| Y6 (v := (u32 x0)) rfl (fun _ e' => Ql Yi rfl rfl (m5.ext e').h0 rfl) ?_
  refine Jj rfl (u32 sa) <| Xq rfl (Yr rfl rfl) <| Xq rfl (Qm rfl) <| Xq rfl (Zd (r := 0) Jf rfl Yy V3 rfl rfl) <| Ug m5 fun w19 m19 => Qd (Xe 0 0 W9 Zn rfl) <| Ve (Vw Zn rfl rfl (Xa _) m19.h0 Xk (.inl (Nat.zero_le _))) ?_
  rintro _ w20 uq20
  have m20 : Mem _ _ [(bd, .cells #[(u32 (x0 + sa)), (u32 x1), (u32 x2), (u32 x3), (u32 x4), (u32 x5), (u32 x6), (u32 x7), v, (u64 n)] 154 (0, 0))] := m19.upd0 uq20
  refine Zo (Qh (Qb ?_))
  refine Qd (v := (i64 1)) (Xd 0 1) <| Zb (i64 1) ?_
  refine rN (Zh (sR ?_))
  refine Qd (X5 1 8) ?_
  refine rN (Qc ?_)
  refine Qx rfl Yh ?_
  refine Qo (Qa (Qc (Qj (sR ?_))))
  refine Zb (i64 1) <| Qd (v := (u32 sz)) (X8 (i := 1) W9 Yi rfl Zn rfl rfl oM sD (Qv _ _ 0 Xk)) <| Zv (i64 1) <| Zv (u32 sz) <| rN <| Xj (dl 10) 10 Xh <| yqE rfl s0 <| Jj rfl (i64 1) <| Xq rfl (Qm rfl) <| Xq rfl (Zd (r := 0) Jf rfl Yy V3 rfl rfl) <| Xq rfl (Xe 1 1 W9 Zn rfl) <| Y6 (v := (u32 x1)) rfl (fun _ e' => Ql Yi rfl rfl (m20.ext e').h0 rfl) ?_
  refine Jj rfl (u32 sz) <| Xq rfl (Yr rfl rfl) <| Xq rfl (Qm rfl) <| Xq rfl (Zd (r := 0) Jf rfl Yy V3 rfl rfl) <| Ug m20 fun w21 m21 => Qd (Xe 1 1 W9 Zn rfl) <| Ve (Vw Zn rfl rfl (Xa _) m21.h0 Xk (.inl (Nat.zero_le _))) ?_
  rintro _ w22 uq22
  have m22 : Mem _ _ [(bd, .cells #[(u32 (x0 + sa)), (u32 (x1 + sz)), (u32 x2), (u32 x3), (u32 x4), (u32 x5), (u32 x6), (u32 x7), v, (u64 n)] 154 (0, 0))] := m21.upd0 uq22
  refine Zo (Qh (Qb ?_))
  refine Qd (v := (i64 2)) (Xd 1 1) <| Zb (i64 2) ?_
  refine rN (Zh (sR ?_))
  refine Qd (X5 2 8) ?_
  refine rN (Qc ?_)
  refine Qx rfl Yh ?_
  refine Qo (Qa (Qc (Qj (sR ?_))))
  refine Zb (i64 2) <| Qd (v := (u32 sc)) (X8 (i := 2) W9 Yi rfl Zn rfl rfl oM sD (Qv _ _ 0 Xk)) <| Zv (i64 2) <| Zv (u32 sc) <| rN <| Xj (dl 10) 10 Xh <| yqE rfl s0 <| Jj rfl (i64 2) <| Xq rfl (Qm rfl) <| Xq rfl (Zd (r := 0) Jf rfl Yy V3 rfl rfl) <| Xq rfl (Xe 2 2 W9 Zn rfl) <| Y6 (v := (u32 x2)) rfl (fun _ e' => Ql Yi rfl rfl (m22.ext e').h0 rfl) ?_
  refine Jj rfl (u32 sc) <| Xq rfl (Yr rfl rfl) <| Xq rfl (Qm rfl) <| Xq rfl (Zd (r := 0) Jf rfl Yy V3 rfl rfl) <| Ug m22 fun w23 m23 => Qd (Xe 2 2 W9 Zn rfl) <| Ve (Vw Zn rfl rfl (Xa _) m23.h0 Xk (.inl (Nat.zero_le _))) ?_
  rintro _ w24 uq24
  have m24 : Mem _ _ [(bd, .cells #[(u32 (x0 + sa)), (u32 (x1 + sz)), (u32 (x2 + sc)), (u32 x3), (u32 x4), (u32 x5), (u32 x6), (u32 x7), v, (u64 n)] 154 (0, 0))] := m23.upd0 uq24
  refine Zo (Qh (Qb ?_))
  refine Qd (v := (i64 3)) (Xd 2 1) <| Zb (i64 3) ?_
  refine rN (Zh (sR ?_))
  refine Qd (X5 3 8) ?_
  refine rN (Qc ?_)
  refine Qx rfl Yh ?_
  refine Qo (Qa (Qc (Qj (sR ?_))))
  refine Zb (i64 3) <| Qd (v := (u32 se)) (X8 (i := 3) W9 Yi rfl Zn rfl rfl oM sD (Qv _ _ 0 Xk)) <| Zv (i64 3) <| Zv (u32 se) <| rN <| Xj (dl 10) 10 Xh <| yqE rfl s0 <| Jj rfl (i64 3) <| Xq rfl (Qm rfl) <| Xq rfl (Zd (r := 0) Jf rfl Yy V3 rfl rfl) <| Xq rfl (Xe 3 3 W9 Zn rfl) <| Y6 (v := (u32 x3)) rfl (fun _ e' => Ql Yi rfl rfl (m24.ext e').h0 rfl) ?_
  refine Jj rfl (u32 se) <| Xq rfl (Yr rfl rfl) <| Xq rfl (Qm rfl) <| Xq rfl (Zd (r := 0) Jf rfl Yy V3 rfl rfl) <| Ug m24 fun w25 m25 => Qd (Xe 3 3 W9 Zn rfl) <| Ve (Vw Zn rfl rfl (Xa _) m25.h0 Xk (.inl (Nat.zero_le _))) ?_
  rintro _ w26 uq26
  have m26 : Mem _ _ [(bd, .cells #[(u32 (x0 + sa)), (u32 (x1 + sz)), (u32 (x2 + sc)), (u32 (x3 + se)), (u32 x4), (u32 x5), (u32 x6), (u32 x7), v, (u64 n)] 154 (0, 0))] := m25.upd0 uq26
  refine Zo (Qh (Qb ?_))
  refine Qd (v := (i64 4)) (Xd 3 1) <| Zb (i64 4) <| rN ?_
  refine CR.abs (fun g => g 0 = (ptr bd 0) ∧ g 1 = vb ∧ g 4 = (u32 sa) ∧ g 5 = (u32 sz) ∧ g 6 = (u32 sc) ∧ g 7 = (u32 se) ∧ g 8 = (u32 sf) ∧ g 9 = (u32 sg) ∧ g 10 = (u32 sh) ∧ g 11 = (u32 sk) ∧ g 16 = (i64 3) ∧ g 17 = (u32 se) ∧ g 59 = (agg u32 (Fv l)) ∧ g 60 = (i64 (64 : Int)) ∧ g 61 = (bl (decide ((64 : Int) < 64))) ∧ g 132 = (agg u32 ([sa, sz, sc, se, sf, sg, sh, sk])) ∧ g 133 = (i64 4) ∧ g 134 = (bl true) ∧ True) ⟨s0, s1, s4, s5, s6, s7, s8, s9, s10, s11, rfl, rfl, s59, s60, rfl, rfl, rfl, rfl, trivial⟩ ?_
  rintro fr27 ⟨s0, s1, s4, s5, s6, s7, s8, s9, s10, s11, s16, s17, s59, s60, s61, s132, s133, s134, _⟩
  refine Zh (sR ?_)
  refine Qd (Xy (a := 4) (b := 8) s133 rfl) ?_
  refine rN (Qc ?_)
  refine Qx rfl Yh ?_
  refine Qo (Qa (Qc (Qj (sR ?_))))
  refine Yk s133 <| Qd (v := (u32 sf)) (X8 (i := 4) W9 Yi rfl Zn s132 s133 oM sD (Qv _ _ 0 Xk)) <| Zv (i64 4) <| Zv (u32 sf) <| rN <| Xj (dl 10) 10 Xh <| yqE rfl s0 <| Jj rfl (i64 4) <| Xq rfl (Qm rfl) <| Xq rfl (Zd (r := 0) Jf rfl Yy V3 rfl rfl) <| Xq rfl (Xe 4 4 W9 Zn rfl) <| Y6 (v := (u32 x4)) rfl (fun _ e' => Ql Yi rfl rfl (m26.ext e').h0 rfl) ?_
  refine Jj rfl (u32 sf) <| Xq rfl (Yr rfl rfl) <| Xq rfl (Qm rfl) <| Xq rfl (Zd (r := 0) Jf rfl Yy V3 rfl rfl) <| Ug m26 fun w28 m28 => Qd (Xe 4 4 W9 Zn rfl) <| Ve (Vw Zn rfl rfl (Xa _) m28.h0 Xk (.inl (Nat.zero_le _))) ?_
  rintro _ w29 uq29
  have m29 : Mem _ _ [(bd, .cells #[(u32 (x0 + sa)), (u32 (x1 + sz)), (u32 (x2 + sc)), (u32 (x3 + se)), (u32 (x4 + sf)), (u32 x5), (u32 x6), (u32 x7), v, (u64 n)] 154 (0, 0))] := m28.upd0 uq29
  refine Zo (Qh (Qb ?_))
  refine Qd (v := (i64 5)) (Z9 (a := 4) (b := 1) s133 rfl oM oM) <| Zb (i64 5) ?_
  refine rN (Zh (sR ?_))
  refine Qd (X5 5 8) ?_
  refine rN (Qc ?_)
  refine Qx rfl Yh ?_
  refine Qo (Qa (Qc (Qj (sR ?_))))
  refine Zb (i64 5) <| Qd (v := (u32 sg)) (X8 (i := 5) W9 Yi rfl Zn s132 rfl oM sD (Qv _ _ 0 Xk)) <| Zv (i64 5) <| Zv (u32 sg) <| rN <| Xj (dl 10) 10 Xh <| yqE rfl s0 <| Jj rfl (i64 5) <| Xq rfl (Qm rfl) <| Xq rfl (Zd (r := 0) Jf rfl Yy V3 rfl rfl) <| Xq rfl (Xe 5 5 W9 Zn rfl) <| Y6 (v := (u32 x5)) rfl (fun _ e' => Ql Yi rfl rfl (m29.ext e').h0 rfl) ?_
  refine Jj rfl (u32 sg) <| Xq rfl (Yr rfl rfl) <| Xq rfl (Qm rfl) <| Xq rfl (Zd (r := 0) Jf rfl Yy V3 rfl rfl) <| Ug m29 fun w30 m30 => Qd (Xe 5 5 W9 Zn rfl) <| Ve (Vw Zn rfl rfl (Xa _) m30.h0 Xk (.inl (Nat.zero_le _))) ?_
  rintro _ w31 uq31
  have m31 : Mem _ _ [(bd, .cells #[(u32 (x0 + sa)), (u32 (x1 + sz)), (u32 (x2 + sc)), (u32 (x3 + se)), (u32 (x4 + sf)), (u32 (x5 + sg)), (u32 x6), (u32 x7), v, (u64 n)] 154 (0, 0))] := m30.upd0 uq31
  refine Zo (Qh (Qb ?_))
  refine Qd (v := (i64 6)) (Xd 5 1) <| Zb (i64 6) ?_
  refine rN (Zh (sR ?_))
  refine Qd (X5 6 8) ?_
  refine rN (Qc ?_)
  refine Qx rfl Yh ?_
  refine Qo (Qa (Qc (Qj (sR ?_))))
  refine Zb (i64 6) <| Qd (v := (u32 sh)) (X8 (i := 6) W9 Yi rfl Zn s132 rfl oM sD (Qv _ _ 0 Xk)) <| Zv (i64 6) <| Zv (u32 sh) <| rN <| Xj (dl 10) 10 Xh <| yqE rfl s0 <| Jj rfl (i64 6) <| Xq rfl (Qm rfl) <| Xq rfl (Zd (r := 0) Jf rfl Yy V3 rfl rfl) <| Xq rfl (Xe 6 6 W9 Zn rfl) <| Y6 (v := (u32 x6)) rfl (fun _ e' => Ql Yi rfl rfl (m31.ext e').h0 rfl) ?_
  refine Jj rfl (u32 sh) <| Xq rfl (Yr rfl rfl) <| Xq rfl (Qm rfl) <| Xq rfl (Zd (r := 0) Jf rfl Yy V3 rfl rfl) <| Ug m31 fun w32 m32 => Qd (Xe 6 6 W9 Zn rfl) <| Ve (Vw Zn rfl rfl (Xa _) m32.h0 Xk (.inl (Nat.zero_le _))) ?_
  rintro _ w33 uq33
  have m33 : Mem _ _ [(bd, .cells #[(u32 (x0 + sa)), (u32 (x1 + sz)), (u32 (x2 + sc)), (u32 (x3 + se)), (u32 (x4 + sf)), (u32 (x5 + sg)), (u32 (x6 + sh)), (u32 x7), v, (u64 n)] 154 (0, 0))] := m32.upd0 uq33
  refine Zo (Qh (Qb ?_))
  refine Qd (v := (i64 7)) (Xd 6 1) <| Zb (i64 7) ?_
  refine rN (Zh (sR ?_))
  refine Qd (X5 7 8) ?_
  refine rN (Qc ?_)
  refine Qx rfl Yh ?_
  refine Qo (Qa (Qc (Qj (sR ?_))))
  refine Zb (i64 7) <| Qd (v := (u32 sk)) (X8 (i := 7) W9 Yi rfl Zn s132 rfl oM sD (Qv _ _ 0 Xk)) <| Zv (i64 7) <| Zv (u32 sk) <| rN <| Xj (dl 10) 10 Xh <| yqE rfl s0 <| Jj rfl (i64 7) <| Xq rfl (Qm rfl) <| Xq rfl (Zd (r := 0) Jf rfl Yy V3 rfl rfl) <| Xq rfl (Xe 7 7 W9 Zn rfl) <| Y6 (v := (u32 x7)) rfl (fun _ e' => Ql Yi rfl rfl (m33.ext e').h0 rfl) ?_
  refine Jj rfl (u32 sk) <| Xq rfl (Yr rfl rfl) <| Xq rfl (Qm rfl) <| Xq rfl (Zd (r := 0) Jf rfl Yy V3 rfl rfl) <| Ug m33 fun w34 m34 => Qd (Xe 7 7 W9 Zn rfl) <| Ve (Vw Zn rfl rfl (Xa _) m34.h0 Xk (.inl (Nat.zero_le _))) ?_
  rintro _ w35 uq35
  have m35 : Mem _ _ [(bd, .cells #[(u32 (x0 + sa)), (u32 (x1 + sz)), (u32 (x2 + sc)), (u32 (x3 + se)), (u32 (x4 + sf)), (u32 (x5 + sg)), (u32 (x6 + sh)), (u32 (x7 + sk)), v, (u64 n)] 154 (0, 0))] := m34.upd0 uq35
  refine Zo (Qh (Qb ?_))
  refine Qd (v := (i64 8)) (Xd 7 1) <| Zb (i64 8) ?_
  refine rN (Zh (sR ?_))
  refine Qd (X5 8 8) ?_
  refine rN (Qc ?_)
  refine Ym rfl Yh <| Yc ?_
  refine Qr (Qr (Xp ?_))
  refine Ec [] trivial ?_
  exact ⟨_, _, _, _, _, _, _, _, by rw [Qgy, ← hs]; rfl, m35⟩
end Go.Proofs.YtkmiemlpfkfiiaaDoor
