/- Contracts: hash, first part. Conditions: none beyond those that each theorem states. -/
import Derived.Test.YtkmiemlpfkfiiaaDoorTab
import Derived.Test.YtkmiemlpfkfiiaaDoorFwM
import Derived.Test.YtkmiemlpfkfiiaaDoorSt6
namespace Go.Proofs.YtkmiemlpfkfiiaaDoor
open Tryd
set_option linter.unusedVariables false
set_option linter.unusedSimpArgs false
def Qb2 : List (BitVec 32) := [1779033703#32, 3144134277#32, 1013904242#32, 2773480762#32, 1359893119#32, 2600822924#32, 528734635#32, 1541459225#32]
def Eb : List (BitVec 32) := [1116352408#32, 1899447441#32, 3049323471#32, 3921009573#32, 961987163#32, 1508970993#32, 2453635748#32, 2870763221#32, 3624381080#32, 310598401#32, 607225278#32, 1426881987#32, 1925078388#32, 2162078206#32, 2614888103#32, 3248222580#32, 3835390401#32, 4022224774#32, 264347078#32, 604807628#32, 770255983#32, 1249150122#32, 1555081692#32, 1996064986#32, 2554220882#32, 2821834349#32, 2952996808#32, 3210313671#32, 3336571891#32, 3584528711#32, 113926993#32, 338241895#32, 666307205#32, 773529912#32, 1294757372#32, 1396182291#32, 1695183700#32, 1986661051#32, 2177026350#32, 2456956037#32, 2730485921#32, 2820302411#32, 3259730800#32, 3345764771#32, 3516065817#32, 3600352804#32, 4094571909#32, 275423344#32, 430227734#32, 506948616#32, 659060556#32, 883997877#32, 958139571#32, 1322822218#32, 1537002063#32, 1747873779#32, 1955562222#32, 2024104815#32, 2227730452#32, 2361852424#32, 2428436474#32, 2756734187#32, 3204031479#32, 3329325298#32]
@[simp] theorem roundL_length : Eb.length = 64 := rfl
structure Tabs (m : Nat → Option Obj) : Prop where
 start : ∃ E fz, m 0 = some (.cells (cl u32 [1779033703#32, 3144134277#32, 1013904242#32, 2773480762#32, 1359893119#32, 2600822924#32, 528734635#32, 1541459225#32]) E fz)
 round : ∃ E fz, m 1 = some (.cells (cl u32 Eb) E fz)
theorem Tabs.mono {m m' : Nat → Option Obj} (h : Tabs m) (hm : ∀ b o, m b = some o → m' b = some o) : Tabs m' :=
 ⟨let ⟨E, fz, e⟩ := h.start; ⟨E, fz, hm _ _ e⟩, let ⟨E, fz, e⟩ := h.round; ⟨E, fz, hm _ _ e⟩⟩
def be4 (a b c d : BitVec 8) : BitVec 32 := (((0#32 <<< 8 ||| a.setWidth 32) <<< 8 ||| b.setWidth 32) <<< 8 ||| c.setWidth 32) <<< 8 ||| d.setWidth 32
def Qdl (l : Xg) (w : List (BitVec 32)) (k : Nat) : BitVec 32 :=
 if k < 16 then be4 (l.getD (4 * k) 0) (l.getD (4 * k + 1) 0) (l.getD (4 * k + 2) 0) (l.getD (4 * k + 3) 0)
 else (w.getD (k - 16) 0 + w.getD (k - 7) 0) + ((Zd (w.getD (k - 15) 0) (-7) ^^^ Zd (w.getD (k - 15) 0) (-18)) ^^^ (w.getD (k - 15) 0) >>> 3)
  + ((Zd (w.getD (k - 2) 0) (-17) ^^^ Zd (w.getD (k - 2) 0) (-19)) ^^^ (w.getD (k - 2) 0) >>> 10)
def Vb (l : Xg) : Nat → List (BitVec 32)
 | 0 => List.replicate 64 0
 | k + 1 => (Vb l k).set k (Qdl l (Vb l k) k)
@[simp] theorem Qah (l : Xg) (k : Nat) : (Vb l k).length = 64 := by
 induction k with
 | zero => simp [Vb]
 | succ k ih => simp [Vb, ih]
theorem Qj2 (l : Xg) : ∀ (k j : Nat), k ≤ j → (Vb l k).getD j 0 = 0 := by
 intro k
 induction k with
 | zero =>
  intro j _
  simp only [Vb, List.getD_eq_getElem?_getD, List.getElem?_replicate]
  split <;> rfl
 | succ k ih =>
  intro j h
  have := ih j oM
  simp only [Vb, List.getD_eq_getElem?_getD, List.getElem?_set] at this ⊢
  rw [if_neg oM]; exact this
theorem Lc {α : Type} (l : List α) (k : Nat) (a z : α) (h : k < l.length) : (l.set k a).getD k z = a := by simp [List.getD_eq_getElem?_getD, h]
theorem Qg5 (l : Xg) (k : Nat) (h : k < 16) (a b c d : BitVec 8) (ha : a = l.getD (4 * k) 0) (hb : b = l.getD (4 * k + 1) 0) (hc : c = l.getD (4 * k + 2) 0) (hd : d = l.getD (4 * k + 3) 0) (w : List (BitVec 32)) (hw : w = Vb l k) :
  (((w.set k (w.getD k 0 <<< 8 ||| a.setWidth 32)).set k ((w.set k (w.getD k 0 <<< 8 ||| a.setWidth 32)).getD k 0 <<< 8 ||| b.setWidth 32)).set k
   (((w.set k (w.getD k 0 <<< 8 ||| a.setWidth 32)).set k ((w.set k (w.getD k 0 <<< 8 ||| a.setWidth 32)).getD k 0 <<< 8 ||| b.setWidth 32)).getD k 0 <<< 8 ||| c.setWidth 32)).set k
   ((((w.set k (w.getD k 0 <<< 8 ||| a.setWidth 32)).set k ((w.set k (w.getD k 0 <<< 8 ||| a.setWidth 32)).getD k 0 <<< 8 ||| b.setWidth 32)).set k
   (((w.set k (w.getD k 0 <<< 8 ||| a.setWidth 32)).set k ((w.set k (w.getD k 0 <<< 8 ||| a.setWidth 32)).getD k 0 <<< 8 ||| b.setWidth 32)).getD k 0 <<< 8 ||| c.setWidth 32)).getD k 0 <<< 8 ||| d.setWidth 32) = Vb l (k + 1) := by
 subst hw ha hb hc hd
 simp only [Vb, List.set_set]
 rw [Lc _ _ _ _ (by simp; omega), Lc _ _ _ _ (by simp; omega), Lc _ _ _ _ (by simp; omega), Qj2 l k k (Nat.le_refl _)]
 unfold Qdl
 rw [if_pos h]; rfl
theorem Qog (l : Xg) (k : Nat) (h : ¬ k < 16) (h2 : k < 64) (w : List (BitVec 32)) (hw : w = Vb l k) (A B C : BitVec 32)
  (hA : A = w.getD (k - 16) 0 + w.getD (k - 7) 0) (hB : B = (Zd (w.getD (k - 15) 0) (-7) ^^^ Zd (w.getD (k - 15) 0) (-18)) ^^^ (w.getD (k - 15) 0) >>> 3)
  (hC : C = (Zd (w.getD (k - 2) 0) (-17) ^^^ Zd (w.getD (k - 2) 0) (-19)) ^^^ (w.getD (k - 2) 0) >>> 10) :
  ((w.set k A).set k ((w.set k A).getD k 0 + B)).set k (((w.set k A).set k ((w.set k A).getD k 0 + B)).getD k 0 + C) = Vb l (k + 1) := by
 subst hw hA hB hC
 simp only [Vb, List.set_set]
 rw [Lc _ _ _ _ (by simp; omega), Lc _ _ _ _ (by simp; omega)]
 unfold Qdl
 rw [if_neg h]
theorem Tm (l : Xg) (k : Nat) (h : 4 * k + 4 ≤ l.length) : (l.drop (4 * (k : Int)).toNat).take ((4 * (k : Int) + 4).toNat - (4 * (k : Int)).toNat) = [l.getD (4 * k) 0, l.getD (4 * k + 1) 0, l.getD (4 * k + 2) 0, l.getD (4 * k + 3) 0] := by
 have e1 : (4 * (k : Int)).toNat = 4 * k := by omega
 have e2 : (4 * (k : Int) + 4).toNat - (4 * (k : Int)).toNat = 4 := by omega
 rw [e2, e1]
 refine List.ext_getElem (by simp; omega) fun i h1 h2 => ?_
 simp only [List.length_cons, List.length_nil] at h2
 have : i = 0 ∨ i = 1 ∨ i = 2 ∨ i = 3 := by omega
 rcases this with rfl | rfl | rfl | rfl <;> simp [List.getD_eq_getElem?_getD] <;> rw [List.getElem?_eq_getElem oM] <;> rfl
def Dk (l : Xg) : List (BitVec 32) := Vb l 64
@[simp] theorem schedP_length (l : Xg) : (Dk l).length = 64 := Qah l 64
def rnd (w t : BitVec 32) : List (BitVec 32) → List (BitVec 32)
 | [a, z, c, e, f, g, h, k] =>
  let t1 := (((k + w) + t) + ((f &&& g) ^^^ (~~~f &&& h))) + ((Zd f (-6) ^^^ Zd f (-11)) ^^^ Zd f (-25))
  let u := (((a &&& z) ^^^ (a &&& c)) ^^^ (z &&& c)) + ((Zd a (-2) ^^^ Zd a (-13)) ^^^ Zd a (-22))
  [t1 + u, a, z, c, e + t1, f, g, h]
 | l => l
def Qak (wl : List (BitVec 32)) : Nat → List (BitVec 32) → List (BitVec 32)
 | 0, s => s
 | k + 1, s => rnd (wl.getD k 0) (Eb.getD k 0) (Qak wl k s)
def Qg2 (h : List (BitVec 32)) (l : Xg) : List (BitVec 32) := List.zipWith (· + ·) h (Qak (Dk l) 64 h)
theorem c_hnew  (w0 : World)  (hT : Tabs (Jl w0)) : X9 prog 84 #[] w0 (fun r w1 => ∃ b, r = ptr b 0 ∧ Mem w1 (Qu w0) [(b, .cells #[(u32 1779033703#32), (u32 3144134277#32), (u32 1013904242#32), (u32 2773480762#32), (u32 1359893119#32), (u32 2600822924#32), (u32 528734635#32), (u32 1541459225#32), Yj, (u64 0#64)] 154 (0, 0))]) := by
 refine Zb (args := []) func84 rfl ntmps84 results84 rfl ?_
 have m0 : Mem w0 (Qu w0) [] := Mem.of_world w0
 obtain ⟨Es, fzs, hTs⟩ := hT.start
 obtain ⟨Er, fzr, hTr⟩ := hT.round
 refine sR <| Zz (Value.pointer none) ?_
 refine rN (sR ?_)
 refine Qd (Qp Jc rfl Uk rfl (m0.rest _ _ hTs) sZ) <| Qd (Va (c := #[(u32 1779033703#32), (u32 3144134277#32), (u32 1013904242#32), (u32 2773480762#32), (u32 1359893119#32), (u32 2600822924#32), (u32 528734635#32), (u32 1541459225#32), Yj, (u64 0)]) (pl := [(0, 8), (8, 1), (9, 1)]) Qil Vq Xw (J3 (i := 0) (v := (agg u32 ([1779033703#32, 3144134277#32, 1013904242#32, 2773480762#32, 1359893119#32, 2600822924#32, 528734635#32, 1541459225#32]))) (cs := (cl u32 ([1779033703#32, 3144134277#32, 1013904242#32, 2773480762#32, 1359893119#32, 2600822924#32, 528734635#32, 1541459225#32]))) rfl rfl V3) Xw) <| Y9 (F8 (cs := #[(u32 1779033703#32), (u32 3144134277#32), (u32 1013904242#32), (u32 2773480762#32), (u32 1359893119#32), (u32 2600822924#32), (u32 528734635#32), (u32 1541459225#32), Yj, (u64 0)]) m0 rfl) fun w1 b3 m1 => Zz (ptr b3 0) ?_
 refine rN (Xb ?_)
 refine Qv [(ptr b3 0)] ⟨rfl, trivial⟩ ?_
 exact ⟨b3, rfl, m1⟩
theorem Qpr (vb : Value) (l : Xg) (w0 : World)  (hr : Rd (Jl w0) u8 vb l) (hl : l.length = 64) : X9 prog 111 #[vb] w0 (fun r w1 => r = (agg u32 (Dk l)) ∧ Ext w0 w1) := by
 refine Zb (args := [vb]) func111 rfl ntmps111 results111 rfl ?_
 have m0 : Mem w0 (Qu w0) [] := Mem.of_world w0
 refine sR <| Y9 (Zc m0 Qbl) fun w1 b2 m1 => ?_
 refine rN (Qa (sR ?_))
 refine Zp (i64 0) ?_
 refine rN (Qk ?_)
 refine Y7 (fun g wv => ∃ (k : Nat) (wl : List (BitVec 32)), (k ≤ 64) ∧ (wl = Vb l k) ∧ g 0 = vb ∧ g 2 = (ptr b2 0) ∧ g 8 = (i64 (k : Int)) ∧ Mem wv (Qu w0) [(b2, .cells (cl u32 wl) 160 (0, 0))]) (fun g wv => (64 - RowKit.intOf (g 8)).toNat) ?_ ?_
 ·exact ⟨0, _, oM, rfl, rfl, rfl, rfl, m1⟩
 rintro fr2 w3 ⟨k, wl, hk1, hw, s0, s2, s8, m3⟩
 have z8 := s8
 have hwl : wl.length = 64 := by rw [hw]; simp
 refine sR <| Qd (Z9 (b := 64) s8 rfl) ?_
 refine rN (Qa ?_)
 refine Z8 rfl (fun hc4 => ?_) (fun hc4 => ?_)
 ·
  have hc4p := of_decide_eq_true hc4
  refine Qs (Qc (Qa (Qk (sR ?_))))
  refine Ya s8 <| Zz (i64 (k : Int)) ?_
  refine rN (Qa (sR ?_))
  refine Zp (i64 (k : Int)) <| Qd (Z9 (b := 16) rfl rfl) <| rN ?_
  refine Z8 rfl (fun hc5 => ?_) (fun hc5 => ?_)
  ·
   have hc5p := of_decide_eq_true hc5
   refine Qa (sR ?_)
   refine Ya s0 <| Zp (i64 (k : Int)) <| Qd (Wl (a := 4) rfl rfl oM oM) <| Zp (i64 (k : Int)) <| Qd (Wl (a := 4) rfl rfl oM oM) <| Qd (Zg (b := 4) rfl rfl oM oM) <| Qd (Jd (i := 4 * (k : Int)) (j := 4 * (k : Int) + 4) (Rd.ofRest hr m3) Zu Y0 rfl (Yh (k := .i64) (i := 4 * (k : Int)) rfl) (Yh (k := .i64) (i := 4 * (k : Int) + 4) rfl) oM oM oM) <| Qd (Yl (l := [l.getD (4 * k) 0, l.getD (4 * k + 1) 0, l.getD (4 * k + 2) 0, l.getD (4 * k + 3) 0]) (Rd.cast (Rd.sub (Rd.ofRest hr m3) oM oM oM) (Tm l k oM)) Zu rfl) <| Zp (i64 0) ?_
   refine rN (Qk ?_)
   refine Wx 5 ?_
   refine Zt (sR ?_)
   refine Qd (Jf 0 4) ?_
   refine rN (Qa ?_)
   refine Za rfl Jg ?_
   refine Qs (Qc (Qa (Qk (sR ?_))))
   refine Qd (Zw (i := 0) (Rd.cast (Rd.sub (Rd.ofRest hr m3) oM oM oM) (Tm l k oM)) Zu Y0 rfl rfl oM X7) <| Qd (v := (u8 (l.getD (4 * k) 0))) (X8 (l := [l.getD (4 * k) 0, l.getD (4 * k + 1) 0, l.getD (4 * k + 2) 0, l.getD (4 * k + 3) 0]) (i := 0) (dflt := 0) (Rd.cast (Rd.sub (Rd.ofRest hr m3) oM oM oM) (Tm l k oM)) Gl rfl oM X7 rfl) <| Zz (u8 (l.getD (4 * k) 0)) ?_
   refine rN (Qb ?_)
   refine Zp (i64 (k : Int)) <| Zp (i64 (k : Int)) <| Qd (Zo (r := k) oM Gw Zj s2 rfl oM sD) <| Qd (Ql Xx rfl rfl m3.h0 (Qx _ _ 0 sD)) <| Qd (Fv (b := 8) rfl rfl oM) <| Zp (u8 (l.getD (4 * k) 0)) <| Qd (Wj ⟨_, Gl⟩ Xx rfl) <| Qd (Du rfl rfl) <| Qd (Zo (r := k) oM Gw Zj s2 rfl oM sD) <| Ye m3 (Xz (f := u32) (a := ((wl.getD k 0) <<< 8) ||| ((l.getD (4 * k) 0).setWidth 32)) Xf Zj rfl rfl m3.h0 sD (.inl (Nat.zero_le _))) fun w6 m6 => ?_
   refine Zv (Qh (Qb ?_))
   refine Qd (v := (i64 1)) (Yo 0 1) <| Zp (i64 1) ?_
   refine rN (Zt (sR ?_))
   refine Qd (Jf 1 4) ?_
   refine rN (Qa ?_)
   refine Za rfl Jg ?_
   refine Qs (Qc (Qa (Qk (sR ?_))))
   refine Qd (Zw (i := 1) (Rd.cast (Rd.sub (Rd.ofRest hr m6) oM oM oM) (Tm l k oM)) Zu Y0 rfl rfl oM X7) <| Qd (v := (u8 (l.getD (4 * k + 1) 0))) (X8 (l := [l.getD (4 * k) 0, l.getD (4 * k + 1) 0, l.getD (4 * k + 2) 0, l.getD (4 * k + 3) 0]) (i := 1) (dflt := 0) (Rd.cast (Rd.sub (Rd.ofRest hr m6) oM oM oM) (Tm l k oM)) Gl rfl oM X7 rfl) <| Zz (u8 (l.getD (4 * k + 1) 0)) ?_
   refine rN (Qb ?_)
   refine Zp (i64 (k : Int)) <| Zp (i64 (k : Int)) <| Qd (Zo (r := k) oM Gw Zj s2 rfl oM sD) <| Qd (Ql Xx rfl rfl m6.h0 (Qx _ _ 0 sD)) <| Qd (Fv (b := 8) rfl rfl oM) <| Zp (u8 (l.getD (4 * k + 1) 0)) <| Qd (Wj ⟨_, Gl⟩ Xx rfl) <| Qd (Du rfl rfl) <| Qd (Zo (r := k) oM Gw Zj s2 rfl oM sD) <| Ye m6 (Xz (f := u32) (a := (((wl.set k (((wl.getD k 0) <<< 8) ||| ((l.getD (4 * k) 0).setWidth 32))).getD k 0) <<< 8) ||| ((l.getD (4 * k + 1) 0).setWidth 32)) Xf Zj rfl rfl m6.h0 sD (.inl (Nat.zero_le _))) fun w7 m7 => ?_
   refine Zv (Qh (Qb ?_))
   refine Qd (v := (i64 2)) (Yo 1 1) <| Zp (i64 2) ?_
   refine rN (Zt (sR ?_))
   refine Qd (Jf 2 4) ?_
   refine rN (Qa ?_)
   refine Za rfl Jg ?_
   refine Qs (Qc (Qa (Qk (sR ?_))))
   refine Qd (Zw (i := 2) (Rd.cast (Rd.sub (Rd.ofRest hr m7) oM oM oM) (Tm l k oM)) Zu Y0 rfl rfl oM X7) <| Qd (v := (u8 (l.getD (4 * k + 2) 0))) (X8 (l := [l.getD (4 * k) 0, l.getD (4 * k + 1) 0, l.getD (4 * k + 2) 0, l.getD (4 * k + 3) 0]) (i := 2) (dflt := 0) (Rd.cast (Rd.sub (Rd.ofRest hr m7) oM oM oM) (Tm l k oM)) Gl rfl oM X7 rfl) <| Zz (u8 (l.getD (4 * k + 2) 0)) ?_
   refine rN (Qb ?_)
   refine Zp (i64 (k : Int)) <| Zp (i64 (k : Int)) <| Qd (Zo (r := k) oM Gw Zj s2 rfl oM sD) <| Qd (Ql Xx rfl rfl m7.h0 (Qx _ _ 0 sD)) <| Qd (Fv (b := 8) rfl rfl oM) <| Zp (u8 (l.getD (4 * k + 2) 0)) <| Qd (Wj ⟨_, Gl⟩ Xx rfl) <| Qd (Du rfl rfl) <| Qd (Zo (r := k) oM Gw Zj s2 rfl oM sD) <| Ye m7 (Xz (f := u32) (a := ((((wl.set k (((wl.getD k 0) <<< 8) ||| ((l.getD (4 * k) 0).setWidth 32))).set k ((((wl.set k (((wl.getD k 0) <<< 8) ||| ((l.getD (4 * k) 0).setWidth 32))).getD k 0) <<< 8) ||| ((l.getD (4 * k + 1) 0).setWidth 32))).getD k 0) <<< 8) ||| ((l.getD (4 * k + 2) 0).setWidth 32)) Xf Zj rfl rfl m7.h0 sD (.inl (Nat.zero_le _))) fun w8 m8 => ?_
   refine Zv (Qh (Qb ?_))
   refine Qd (v := (i64 3)) (Yo 2 1) <| Zp (i64 3) ?_
   refine rN (Zt (sR ?_))
   refine Qd (Jf 3 4) ?_
   refine rN (Qa ?_)
   refine Za rfl Jg ?_
   refine Qs (Qc (Qa (Qk (sR ?_))))
   refine Qd (Zw (i := 3) (Rd.cast (Rd.sub (Rd.ofRest hr m8) oM oM oM) (Tm l k oM)) Zu Y0 rfl rfl oM X7) <| Qd (v := (u8 (l.getD (4 * k + 3) 0))) (X8 (l := [l.getD (4 * k) 0, l.getD (4 * k + 1) 0, l.getD (4 * k + 2) 0, l.getD (4 * k + 3) 0]) (i := 3) (dflt := 0) (Rd.cast (Rd.sub (Rd.ofRest hr m8) oM oM oM) (Tm l k oM)) Gl rfl oM X7 rfl) <| Zz (u8 (l.getD (4 * k + 3) 0)) ?_
   refine rN (Qb ?_)
   refine Zp (i64 (k : Int)) <| Zp (i64 (k : Int)) <| Qd (Zo (r := k) oM Gw Zj s2 rfl oM sD) <| Qd (Ql Xx rfl rfl m8.h0 (Qx _ _ 0 sD)) <| Qd (Fv (b := 8) rfl rfl oM) <| Zp (u8 (l.getD (4 * k + 3) 0)) <| Qd (Wj ⟨_, Gl⟩ Xx rfl) <| Qd (Du rfl rfl) <| Qd (Zo (r := k) oM Gw Zj s2 rfl oM sD) <| Ye m8 (Xz (f := u32) (a := (((((wl.set k (((wl.getD k 0) <<< 8) ||| ((l.getD (4 * k) 0).setWidth 32))).set k ((((wl.set k (((wl.getD k 0) <<< 8) ||| ((l.getD (4 * k) 0).setWidth 32))).getD k 0) <<< 8) ||| ((l.getD (4 * k + 1) 0).setWidth 32))).set k (((((wl.set k (((wl.getD k 0) <<< 8) ||| ((l.getD (4 * k) 0).setWidth 32))).set k ((((wl.set k (((wl.getD k 0) <<< 8) ||| ((l.getD (4 * k) 0).setWidth 32))).getD k 0) <<< 8) ||| ((l.getD (4 * k + 1) 0).setWidth 32))).getD k 0) <<< 8) ||| ((l.getD (4 * k + 2) 0).setWidth 32))).getD k 0) <<< 8) ||| ((l.getD (4 * k + 3) 0).setWidth 32)) Xf Zj rfl rfl m8.h0 sD (.inl (Nat.zero_le _))) fun w9 m9 => ?_
   refine Zv (Qh (Qb ?_))
   refine Qd (v := (i64 4)) (Yo 3 1) <| Zp (i64 4) ?_
   refine rN (Zt (sR ?_))
   refine Qd (Jf 4 4) ?_
   refine rN (Qa ?_)
   refine Yy rfl Jg <| X6 ?_
   refine Qm (Qm (Xi ?_))
   refine X6 ?_
   refine Qm (Xi ?_)
   refine Qb <| Qd (Zg (b := 1) s8 rfl oM oM) <| Zp (i64 ((k : Int) + 1)) <| rN ?_
   have hwn : (((wl.set k (((wl.getD k 0) <<< 8) ||| ((l.getD (4 * k) 0).setWidth 32))).set k ((((wl.set k (((wl.getD k 0) <<< 8) ||| ((l.getD (4 * k) 0).setWidth 32))).getD k 0) <<< 8) ||| ((l.getD (4 * k + 1) 0).setWidth 32))).set k (((((wl.set k (((wl.getD k 0) <<< 8) ||| ((l.getD (4 * k) 0).setWidth 32))).set k ((((wl.set k (((wl.getD k 0) <<< 8) ||| ((l.getD (4 * k) 0).setWidth 32))).getD k 0) <<< 8) ||| ((l.getD (4 * k + 1) 0).setWidth 32))).getD k 0) <<< 8) ||| ((l.getD (4 * k + 2) 0).setWidth 32))).set k ((((((wl.set k (((wl.getD k 0) <<< 8) ||| ((l.getD (4 * k) 0).setWidth 32))).set k ((((wl.set k (((wl.getD k 0) <<< 8) ||| ((l.getD (4 * k) 0).setWidth 32))).getD k 0) <<< 8) ||| ((l.getD (4 * k + 1) 0).setWidth 32))).set k (((((wl.set k (((wl.getD k 0) <<< 8) ||| ((l.getD (4 * k) 0).setWidth 32))).set k ((((wl.set k (((wl.getD k 0) <<< 8) ||| ((l.getD (4 * k) 0).setWidth 32))).getD k 0) <<< 8) ||| ((l.getD (4 * k + 1) 0).setWidth 32))).getD k 0) <<< 8) ||| ((l.getD (4 * k + 2) 0).setWidth 32))).getD k 0) <<< 8) ||| ((l.getD (4 * k + 3) 0).setWidth 32)) = Vb l (k + 1) := by
    exact Qg5 l k oM (l.getD (4 * k) 0) (l.getD (4 * k + 1) 0) (l.getD (4 * k + 2) 0) (l.getD (4 * k + 3) 0) rfl rfl rfl rfl wl hw
   exact ⟨⟨k + 1, (((wl.set k (((wl.getD k 0) <<< 8) ||| ((l.getD (4 * k) 0).setWidth 32))).set k ((((wl.set k (((wl.getD k 0) <<< 8) ||| ((l.getD (4 * k) 0).setWidth 32))).getD k 0) <<< 8) ||| ((l.getD (4 * k + 1) 0).setWidth 32))).set k (((((wl.set k (((wl.getD k 0) <<< 8) ||| ((l.getD (4 * k) 0).setWidth 32))).set k ((((wl.set k (((wl.getD k 0) <<< 8) ||| ((l.getD (4 * k) 0).setWidth 32))).getD k 0) <<< 8) ||| ((l.getD (4 * k + 1) 0).setWidth 32))).getD k 0) <<< 8) ||| ((l.getD (4 * k + 2) 0).setWidth 32))).set k ((((((wl.set k (((wl.getD k 0) <<< 8) ||| ((l.getD (4 * k) 0).setWidth 32))).set k ((((wl.set k (((wl.getD k 0) <<< 8) ||| ((l.getD (4 * k) 0).setWidth 32))).getD k 0) <<< 8) ||| ((l.getD (4 * k + 1) 0).setWidth 32))).set k (((((wl.set k (((wl.getD k 0) <<< 8) ||| ((l.getD (4 * k) 0).setWidth 32))).set k ((((wl.set k (((wl.getD k 0) <<< 8) ||| ((l.getD (4 * k) 0).setWidth 32))).getD k 0) <<< 8) ||| ((l.getD (4 * k + 1) 0).setWidth 32))).getD k 0) <<< 8) ||| ((l.getD (4 * k + 2) 0).setWidth 32))).getD k 0) <<< 8) ||| ((l.getD (4 * k + 3) 0).setWidth 32)), oM, hwn, s0, s2, rfl, m9⟩, Uo rfl z8 oM oM⟩
  ·
   have hc5p := of_decide_eq_false hc5
   refine Qs (Qc (Qa ?_))
   refine Xl (dl 9) 9 Xw <| Ky rfl (i64 (k : Int)) <| Yb rfl (Yk (b := 15) rfl rfl oM oM) <| Yb rfl (Zo (r := ((k : Int) - 15 : Int).toNat) oM Gw Zj s2 rfl oM sD) <| Yn (v := (u32 (wl.getD (((k : Int) - 15 : Int).toNat) 0))) rfl (fun _ e' => Ql Xx rfl rfl (m3.ext e').h0 (Qx _ _ 0 sD)) <| Ky rfl (i64 (k : Int)) <| Yb rfl (Yk (b := 2) rfl rfl oM oM) <| Yb rfl (Zo (r := ((k : Int) - 2 : Int).toNat) oM Gw Zj s2 rfl oM sD) <| Yn (v := (u32 (wl.getD (((k : Int) - 2 : Int).toNat) 0))) rfl (fun _ e' => Ql Xx rfl rfl (m3.ext e').h0 (Qx _ _ 0 sD)) <| Yb rfl (Uw (v := (u32 (wl.getD (((k : Int) - 15 : Int).toNat) 0))) rfl) <| Gs m3 fun w10 m10 => Zz (u32 (wl.getD (((k : Int) - 2 : Int).toNat) 0)) ?_
   refine rN (Qa ?_)
   refine Xl (dl 10) 10 Xw <| Ky rfl (i64 (k : Int)) <| Ky rfl (i64 (k : Int)) <| Yb rfl (Yk (b := 16) rfl rfl oM oM) <| Yb rfl (Zo (r := ((k : Int) - 16 : Int).toNat) oM Gw Zj s2 rfl oM sD) <| Yn (v := (u32 (wl.getD (((k : Int) - 16 : Int).toNat) 0))) rfl (fun _ e' => Ql Xx rfl rfl (m10.ext e').h0 (Qx _ _ 0 sD)) <| Ky rfl (i64 (k : Int)) <| Yb rfl (Yk (b := 7) rfl rfl oM oM) <| Yb rfl (Zo (r := ((k : Int) - 7 : Int).toNat) oM Gw Zj s2 rfl oM sD) <| Yn (v := (u32 (wl.getD (((k : Int) - 7 : Int).toNat) 0))) rfl (fun _ e' => Ql Xx rfl rfl (m10.ext e').h0 (Qx _ _ 0 sD)) <| Yb rfl (X5 rfl rfl) <| Gs m10 fun w11 m11 => Qd (Zo (r := k) oM Gw Zj s2 rfl oM sD) <| Ye m11 (Xz (f := u32) (a := (wl.getD (((k : Int) - 16 : Int).toNat) 0) + (wl.getD (((k : Int) - 7 : Int).toNat) 0)) Xf Zj rfl rfl m11.h0 sD (.inl (Nat.zero_le _))) fun w12 m12 => ?_
   refine rN (Qa ?_)
   refine Xl (dl 11) 11 Xw <| Ky rfl (i64 (k : Int)) <| Yb rfl (Zo (r := k) oM Gw Zj s2 rfl oM sD) <| Yn rfl (fun _ e' => Ql Xx rfl rfl (m12.ext e').h0 (Qx _ _ 0 sD)) <| Ky rfl (u32 (wl.getD (((k : Int) - 15 : Int).toNat) 0)) <| Vg (v := (u32 (Zd (wl.getD (((k : Int) - 15 : Int).toNat) 0) ((-7) : Int)))) rfl rfl (fun w13 _ew13 => Vp.mono (Qa3 (Xm rfl rfl) (Eo (wl.getD (((k : Int) - 15 : Int).toNat) 0) _ _)) (by rintro _ w14 ⟨rfl, rfl⟩; exact ⟨rfl, Ext.refl _⟩)) <| Ky rfl (u32 (wl.getD (((k : Int) - 15 : Int).toNat) 0)) <| Vg (v := (u32 (Zd (wl.getD (((k : Int) - 15 : Int).toNat) 0) ((-18) : Int)))) rfl rfl (fun w16 _ew16 => Vp.mono (Qa3 (Xm rfl rfl) (Eo (wl.getD (((k : Int) - 15 : Int).toNat) 0) _ _)) (by rintro _ w17 ⟨rfl, rfl⟩; exact ⟨rfl, Ext.refl _⟩)) <| Yb rfl (Ju rfl rfl) <| Ky rfl (u32 (wl.getD (((k : Int) - 15 : Int).toNat) 0)) <| Yb rfl (Us (b := 3) rfl rfl oM) <| Yb rfl (Ju rfl rfl) ?_
   refine Gs m12 fun w19 m19 => Qd (X5 rfl rfl) <| Qd (Zo (r := k) oM Gw Zj s2 rfl oM sD) <| Ye m19 (Xz (f := u32) (a := ((wl.set k ((wl.getD (((k : Int) - 16 : Int).toNat) 0) + (wl.getD (((k : Int) - 7 : Int).toNat) 0))).getD k 0) + (((Zd (wl.getD (((k : Int) - 15 : Int).toNat) 0) ((-7) : Int)) ^^^ (Zd (wl.getD (((k : Int) - 15 : Int).toNat) 0) ((-18) : Int))) ^^^ ((wl.getD (((k : Int) - 15 : Int).toNat) 0) >>> 3))) Xf Zj rfl rfl m19.h0 sD (.inl (Nat.zero_le _))) fun w20 m20 => rN <| Xl (dl 11) 11 Xw <| Ky rfl (i64 (k : Int)) <| Yb rfl (Zo (r := k) oM Gw Zj s2 rfl oM sD) <| Yn rfl (fun _ e' => Ql Xx rfl rfl (m20.ext e').h0 (Qx _ _ 0 sD)) <| Ky rfl (u32 (wl.getD (((k : Int) - 2 : Int).toNat) 0)) ?_
   refine Vg (v := (u32 (Zd (wl.getD (((k : Int) - 2 : Int).toNat) 0) ((-17) : Int)))) rfl rfl (fun w21 _ew21 => Vp.mono (Qa3 (Xm rfl rfl) (Eo (wl.getD (((k : Int) - 2 : Int).toNat) 0) _ _)) (by rintro _ w22 ⟨rfl, rfl⟩; exact ⟨rfl, Ext.refl _⟩)) <| Ky rfl (u32 (wl.getD (((k : Int) - 2 : Int).toNat) 0)) <| Vg (v := (u32 (Zd (wl.getD (((k : Int) - 2 : Int).toNat) 0) ((-19) : Int)))) rfl rfl (fun w24 _ew24 => Vp.mono (Qa3 (Xm rfl rfl) (Eo (wl.getD (((k : Int) - 2 : Int).toNat) 0) _ _)) (by rintro _ w25 ⟨rfl, rfl⟩; exact ⟨rfl, Ext.refl _⟩)) <| Yb rfl (Ju rfl rfl) <| Ky rfl (u32 (wl.getD (((k : Int) - 2 : Int).toNat) 0)) <| Yb rfl (Us (b := 10) rfl rfl oM) <| Yb rfl (Ju rfl rfl) <| Gs m20 fun w27 m27 => Qd (X5 rfl rfl) <| Qd (Zo (r := k) oM Gw Zj s2 rfl oM sD) <| Ye m27 (Xz (f := u32) (a := (((wl.set k ((wl.getD (((k : Int) - 16 : Int).toNat) 0) + (wl.getD (((k : Int) - 7 : Int).toNat) 0))).set k (((wl.set k ((wl.getD (((k : Int) - 16 : Int).toNat) 0) + (wl.getD (((k : Int) - 7 : Int).toNat) 0))).getD k 0) + (((Zd (wl.getD (((k : Int) - 15 : Int).toNat) 0) ((-7) : Int)) ^^^ (Zd (wl.getD (((k : Int) - 15 : Int).toNat) 0) ((-18) : Int))) ^^^ ((wl.getD (((k : Int) - 15 : Int).toNat) 0) >>> 3)))).getD k 0) + (((Zd (wl.getD (((k : Int) - 2 : Int).toNat) 0) ((-17) : Int)) ^^^ (Zd (wl.getD (((k : Int) - 2 : Int).toNat) 0) ((-19) : Int))) ^^^ ((wl.getD (((k : Int) - 2 : Int).toNat) 0) >>> 10))) Xf Zj rfl rfl m27.h0 sD (.inl (Nat.zero_le _))) fun w28 m28 => ?_
   refine Zv (Qh (Qb ?_))
   refine Qd (Zg (b := 1) s8 rfl oM oM) <| Zp (i64 ((k : Int) + 1)) <| rN ?_
   have hwn : ((wl.set k ((wl.getD (((k : Int) - 16 : Int).toNat) 0) + (wl.getD (((k : Int) - 7 : Int).toNat) 0))).set k (((wl.set k ((wl.getD (((k : Int) - 16 : Int).toNat) 0) + (wl.getD (((k : Int) - 7 : Int).toNat) 0))).getD k 0) + (((Zd (wl.getD (((k : Int) - 15 : Int).toNat) 0) ((-7) : Int)) ^^^ (Zd (wl.getD (((k : Int) - 15 : Int).toNat) 0) ((-18) : Int))) ^^^ ((wl.getD (((k : Int) - 15 : Int).toNat) 0) >>> 3)))).set k ((((wl.set k ((wl.getD (((k : Int) - 16 : Int).toNat) 0) + (wl.getD (((k : Int) - 7 : Int).toNat) 0))).set k (((wl.set k ((wl.getD (((k : Int) - 16 : Int).toNat) 0) + (wl.getD (((k : Int) - 7 : Int).toNat) 0))).getD k 0) + (((Zd (wl.getD (((k : Int) - 15 : Int).toNat) 0) ((-7) : Int)) ^^^ (Zd (wl.getD (((k : Int) - 15 : Int).toNat) 0) ((-18) : Int))) ^^^ ((wl.getD (((k : Int) - 15 : Int).toNat) 0) >>> 3)))).getD k 0) + (((Zd (wl.getD (((k : Int) - 2 : Int).toNat) 0) ((-17) : Int)) ^^^ (Zd (wl.getD (((k : Int) - 2 : Int).toNat) 0) ((-19) : Int))) ^^^ ((wl.getD (((k : Int) - 2 : Int).toNat) 0) >>> 10))) = Vb l (k + 1) := by
    have e16 : ((k : Int) - 16).toNat = k - 16 := by omega
    have e7 : ((k : Int) - 7).toNat = k - 7 := by omega
    have e15 : ((k : Int) - 15).toNat = k - 15 := by omega
    have e2 : ((k : Int) - 2).toNat = k - 2 := by omega
    rw [e16, e7, e15, e2]
    exact Qog l k oM oM wl hw _ _ _ rfl rfl rfl
   exact ⟨⟨k + 1, ((wl.set k ((wl.getD (((k : Int) - 16 : Int).toNat) 0) + (wl.getD (((k : Int) - 7 : Int).toNat) 0))).set k (((wl.set k ((wl.getD (((k : Int) - 16 : Int).toNat) 0) + (wl.getD (((k : Int) - 7 : Int).toNat) 0))).getD k 0) + (((Zd (wl.getD (((k : Int) - 15 : Int).toNat) 0) ((-7) : Int)) ^^^ (Zd (wl.getD (((k : Int) - 15 : Int).toNat) 0) ((-18) : Int))) ^^^ ((wl.getD (((k : Int) - 15 : Int).toNat) 0) >>> 3)))).set k ((((wl.set k ((wl.getD (((k : Int) - 16 : Int).toNat) 0) + (wl.getD (((k : Int) - 7 : Int).toNat) 0))).set k (((wl.set k ((wl.getD (((k : Int) - 16 : Int).toNat) 0) + (wl.getD (((k : Int) - 7 : Int).toNat) 0))).getD k 0) + (((Zd (wl.getD (((k : Int) - 15 : Int).toNat) 0) ((-7) : Int)) ^^^ (Zd (wl.getD (((k : Int) - 15 : Int).toNat) 0) ((-18) : Int))) ^^^ ((wl.getD (((k : Int) - 15 : Int).toNat) 0) >>> 3)))).getD k 0) + (((Zd (wl.getD (((k : Int) - 2 : Int).toNat) 0) ((-17) : Int)) ^^^ (Zd (wl.getD (((k : Int) - 2 : Int).toNat) 0) ((-19) : Int))) ^^^ ((wl.getD (((k : Int) - 2 : Int).toNat) 0) >>> 10))), oM, hwn, s0, s2, rfl, m28⟩, Uo rfl z8 oM oM⟩
 ·
  have hc4p := of_decide_eq_false hc4
  obtain rfl : k = 64 := by omega
  have hwl : wl.length = 64 := by rw [hw, Qah]
  refine X6 ?_
  refine Qm (Qm (Xi ?_))
  refine sR <| Qd (Qp Gw rfl Qbl s2 m3.h0 sZ) <| Ye m3 (Qj (f := u32) (l := wl) Xf Qbl s2 rfl sD m3.h0 sZ rfl) fun w29 m29 => ?_
  refine rN (Xb ?_)
  refine Qv [(agg u32 wl)] ⟨⟨_, s2, Xr Gw rfl Qbl m29.h0 sZ⟩, trivial⟩ ?_
  exact ⟨congrArg (agg u32) hw, m29.toExt⟩
theorem c_take (bd : Nat) (x0 x1 x2 x3 x4 x5 x6 x7 : BitVec 32) (v : Value) (n : BitVec 64) (vb : Value) (l : Xg) (w0 : World) (R : Rest) (m0 : Mem w0 R [(bd, .cells #[(u32 x0), (u32 x1), (u32 x2), (u32 x3), (u32 x4), (u32 x5), (u32 x6), (u32 x7), v, (u64 n)] 154 (0, 0))]) (hT : Tabs R.blk) (hr : Rd R.blk u8 vb l) (hl : l.length = 64) : X9 prog 102 #[(ptr bd 0), vb] w0 (fun r w1 => ∃ y0 y1 y2 y3 y4 y5 y6 y7, [y0, y1, y2, y3, y4, y5, y6, y7] = Qg2 [x0, x1, x2, x3, x4, x5, x6, x7] l ∧ Mem w1 R [(bd, .cells #[(u32 y0), (u32 y1), (u32 y2), (u32 y3), (u32 y4), (u32 y5), (u32 y6), (u32 y7), v, (u64 n)] 154 (0, 0))]) := by
 refine Zb (args := [(ptr bd 0), vb]) func102 rfl ntmps102 results102 rfl ?_
 obtain ⟨Es, fzs, hTs⟩ := hT.start
 obtain ⟨Er, fzr, hTr⟩ := hT.round
 refine Qa <| Xl (dl 47) 47 Xw <| Ky rfl (ptr bd 0) <| Yb rfl (Zh rfl) <| Yb rfl (Zr (r := 0) Vq rfl Jr Uk rfl rfl) <| Yb rfl (Xv 0 0 Jc Zj rfl) <| Yn (v := (u32 x0)) rfl (fun _ e' => Ql Xx rfl rfl (m0.ext e').h0 rfl) <| Ky rfl (ptr bd 0) <| Yb rfl (Zh rfl) <| Yb rfl (Zr (r := 0) Vq rfl Jr Uk rfl rfl) <| Yb rfl (Xv 1 1 Jc Zj rfl) <| Yn (v := (u32 x1)) rfl (fun _ e' => Ql Xx rfl rfl (m0.ext e').h0 rfl) ?_
 refine Ky rfl (ptr bd 0) <| Yb rfl (Zh rfl) <| Yb rfl (Zr (r := 0) Vq rfl Jr Uk rfl rfl) <| Yb rfl (Xv 2 2 Jc Zj rfl) <| Yn (v := (u32 x2)) rfl (fun _ e' => Ql Xx rfl rfl (m0.ext e').h0 rfl) <| Ky rfl (ptr bd 0) <| Yb rfl (Zh rfl) <| Yb rfl (Zr (r := 0) Vq rfl Jr Uk rfl rfl) <| Yb rfl (Xv 3 3 Jc Zj rfl) <| Yn (v := (u32 x3)) rfl (fun _ e' => Ql Xx rfl rfl (m0.ext e').h0 rfl) <| Ky rfl (ptr bd 0) <| Yb rfl (Zh rfl) ?_
 refine Yb rfl (Zr (r := 0) Vq rfl Jr Uk rfl rfl) <| Yb rfl (Xv 4 4 Jc Zj rfl) <| Yn (v := (u32 x4)) rfl (fun _ e' => Ql Xx rfl rfl (m0.ext e').h0 rfl) <| Ky rfl (ptr bd 0) <| Yb rfl (Zh rfl) <| Yb rfl (Zr (r := 0) Vq rfl Jr Uk rfl rfl) <| Yb rfl (Xv 5 5 Jc Zj rfl) <| Yn (v := (u32 x5)) rfl (fun _ e' => Ql Xx rfl rfl (m0.ext e').h0 rfl) <| Ky rfl (ptr bd 0) <| Yb rfl (Zh rfl) <| Yb rfl (Zr (r := 0) Vq rfl Jr Uk rfl rfl) <| Yb rfl (Xv 6 6 Jc Zj rfl) ?_
 refine Yn (v := (u32 x6)) rfl (fun _ e' => Ql Xx rfl rfl (m0.ext e').h0 rfl) <| Ky rfl (ptr bd 0) <| Yb rfl (Zh rfl) <| Yb rfl (Zr (r := 0) Vq rfl Jr Uk rfl rfl) <| Yb rfl (Xv 7 7 Jc Zj rfl) <| Yn (v := (u32 x7)) rfl (fun _ e' => Ql Xx rfl rfl (m0.ext e').h0 rfl) <| Yb rfl (Uw (v := (u32 x0)) rfl) <| Yb rfl (Uw (v := (u32 x1)) rfl) <| Yb rfl (Uw (v := (u32 x2)) rfl) <| Yb rfl (Uw (v := (u32 x3)) rfl) <| Yb rfl (Uw (v := (u32 x4)) rfl) <| Yb rfl (Uw (v := (u32 x5)) rfl) ?_
 refine Yb rfl (Uw (v := (u32 x6)) rfl) <| Gs m0 fun w1 m1 => Zz (u32 x7) ?_
 refine rN (Qa (sR ?_))
 refine Zp vb <| U9 m1 (oc111 (Kt rfl) (Qpr vb l _ (Rd.ofRest hr m1) sD)) fun w2 m2 => Zp (i64 0) ?_
 refine rN (Qk ?_)
 refine Y7 (fun g wv => ∃ (k : Nat) (sa sz sc se sf sg sh sk : BitVec 32), (k ≤ 64) ∧ ([sa, sz, sc, se, sf, sg, sh, sk] = Qak (Dk l) k [x0, x1, x2, x3, x4, x5, x6, x7]) ∧ g 0 = (ptr bd 0) ∧ g 1 = vb ∧ g 4 = (u32 sa) ∧ g 5 = (u32 sz) ∧ g 6 = (u32 sc) ∧ g 7 = (u32 se) ∧ g 8 = (u32 sf) ∧ g 9 = (u32 sg) ∧ g 10 = (u32 sh) ∧ g 11 = (u32 sk) ∧ g 59 = (agg u32 (Dk l)) ∧ g 60 = (i64 (k : Int)) ∧ Mem wv R [(bd, .cells #[(u32 x0), (u32 x1), (u32 x2), (u32 x3), (u32 x4), (u32 x5), (u32 x6), (u32 x7), v, (u64 n)] 154 (0, 0))]) (fun g wv => (64 - RowKit.intOf (g 60)).toNat) ?_ ?_
 ·exact ⟨0, x0, x1, x2, x3, x4, x5, x6, x7, oM, rfl, rfl, rfl, rfl, rfl, rfl, rfl, rfl, rfl, rfl, rfl, rfl, rfl, m2⟩
 rintro fr4 w5 ⟨k, sa, sz, sc, se, sf, sg, sh, sk, hk1, hs, s0, s1, s4, s5, s6, s7, s8, s9, s10, s11, s59, s60, m5⟩
 have z60 := s60
 have z4 := s4
 have z5 := s5
 have z6 := s6
 have z7 := s7
 have z8 := s8
 have z9 := s9
 have z10 := s10
 have z11 := s11
 refine sR <| Qd (Z9 (b := 64) s60 rfl) ?_
 refine rN (Qa ?_)
 refine Z8 rfl (fun hc6 => ?_) (fun hc6 => ?_)
 ·
  have hc6p := of_decide_eq_true hc6
  refine Qs (Qc (Qa (Qk (sR ?_))))
  refine Ya s60 <| Qd (v := (u32 ((Dk l).getD k 0))) (J7 Gw Xx rfl Zj s59 s60 oM sD (Qx _ _ 0 sD)) <| Zz (i64 (k : Int)) <| Zz (u32 ((Dk l).getD k 0)) ?_
  refine rN (sR ?_)
  refine Ya s11 <| Zp (u32 ((Dk l).getD k 0)) <| Qd (X5 rfl rfl) <| Zp (i64 (k : Int)) <| Qd (Zo (r := k) oM Gw Zj rfl rfl oM sD) <| Qd (Ql Xx rfl rfl (m5.rest _ _ hTr) (Qx _ _ 0 sD)) <| Qd (X5 rfl rfl) <| Ya s8 <| Ya s9 <| Qd (E5 rfl rfl) <| Ya s8 <| Qd (Qjf rfl) ?_
  refine Ya s10 <| Qd (E5 rfl rfl) <| Qd (Ju rfl rfl) <| Qd (X5 rfl rfl) <| Sz rfl ?_
  refine rN (sR ?_)
  refine Ya rfl <| Ya s8 <| Vy (Qa3 (Xm rfl rfl) (Eo sf _ _)) ?_
  rintro _ w7 ⟨rfl, rfl⟩
  refine Ya s8 <| Vy (Qa3 (Xm rfl rfl) (Eo sf _ _)) ?_
  rintro _ w9 ⟨rfl, rfl⟩
  refine Qd (Ju rfl rfl) <| Ya s8 <| Vy (Qa3 (Xm rfl rfl) (Eo sf _ _)) ?_
  rintro _ w11 ⟨rfl, rfl⟩
  refine Qd (Ju rfl rfl) <| Qd (X5 rfl rfl) <| Sz rfl ?_
  refine rN (sR ?_)
  refine Ya s4 <| Ya s5 <| Qd (E5 rfl rfl) <| Ya s4 <| Ya s6 <| Qd (E5 rfl rfl) <| Qd (Ju rfl rfl) <| Ya s5 <| Ya s6 <| Qd (E5 rfl rfl) <| Qd (Ju rfl rfl) <| Zz (u32 (((sa &&& sz) ^^^ (sa &&& sc)) ^^^ (sz &&& sc))) ?_
  refine rN (sR ?_)
  refine Zp (u32 (((sa &&& sz) ^^^ (sa &&& sc)) ^^^ (sz &&& sc))) <| Ya s4 <| Vy (Qa3 (Xm rfl rfl) (Eo sa _ _)) ?_
  rintro _ w13 ⟨rfl, rfl⟩
  refine Ya s4 <| Vy (Qa3 (Xm rfl rfl) (Eo sa _ _)) ?_
  rintro _ w15 ⟨rfl, rfl⟩
  refine Qd (Ju rfl rfl) <| Ya s4 <| Vy (Qa3 (Xm rfl rfl) (Eo sa _ _)) ?_
  rintro _ w17 ⟨rfl, rfl⟩
  refine Qd (Ju rfl rfl) <| Qd (X5 rfl rfl) <| Sz rfl ?_
  refine rN (Qb ?_)
  refine Ya s10 <| Ya s9 <| Ya s8 <| Ya s7 <| Ya rfl <| Qd (X5 rfl rfl) <| Ya s6 <| Ya s5 <| Ya s4 <| Ya rfl <| Ya rfl <| Qd (X5 rfl rfl) ?_
  refine Zz (u32 sh) <| Zz (u32 sg) <| Zz (u32 sf) <| Sz rfl <| Zz (u32 sc) <| Zz (u32 sz) <| Zz (u32 sa) <| Sz rfl ?_
  refine Zv (Qh (Qb ?_))
  refine Qd (Zg (b := 1) s60 rfl oM oM) <| Zp (i64 ((k : Int) + 1)) <| rN ?_
  have hsn : [((((sk + ((Dk l).getD k 0)) + (Eb.getD k 0)) + ((sf &&& sg) ^^^ ((~~~sf) &&& sh))) + (((Zd sf ((-6) : Int)) ^^^ (Zd sf ((-11) : Int))) ^^^ (Zd sf ((-25) : Int)))) + ((((sa &&& sz) ^^^ (sa &&& sc)) ^^^ (sz &&& sc)) + (((Zd sa ((-2) : Int)) ^^^ (Zd sa ((-13) : Int))) ^^^ (Zd sa ((-22) : Int)))), sa, sz, sc, se + ((((sk + ((Dk l).getD k 0)) + (Eb.getD k 0)) + ((sf &&& sg) ^^^ ((~~~sf) &&& sh))) + (((Zd sf ((-6) : Int)) ^^^ (Zd sf ((-11) : Int))) ^^^ (Zd sf ((-25) : Int)))), sf, sg, sh] = Qak (Dk l) (k + 1) [x0, x1, x2, x3, x4, x5, x6, x7] := by show _ = rnd _ _ (Qak (Dk l) k [x0, x1, x2, x3, x4, x5, x6, x7]); rw [← hs]; rfl
  exact ⟨⟨k + 1, (((((sk + ((Dk l).getD k 0)) + (Eb.getD k 0)) + ((sf &&& sg) ^^^ ((~~~sf) &&& sh))) + (((Zd sf ((-6) : Int)) ^^^ (Zd sf ((-11) : Int))) ^^^ (Zd sf ((-25) : Int)))) + ((((sa &&& sz) ^^^ (sa &&& sc)) ^^^ (sz &&& sc)) + (((Zd sa ((-2) : Int)) ^^^ (Zd sa ((-13) : Int))) ^^^ (Zd sa ((-22) : Int))))), sa, sz, sc, (se + ((((sk + ((Dk l).getD k 0)) + (Eb.getD k 0)) + ((sf &&& sg) ^^^ ((~~~sf) &&& sh))) + (((Zd sf ((-6) : Int)) ^^^ (Zd sf ((-11) : Int))) ^^^ (Zd sf ((-25) : Int))))), sf, sg, sh, oM, hsn, s0, s1, rfl, rfl, rfl, rfl, rfl, rfl, rfl, rfl, s59, rfl, m5⟩, Uo rfl z60 oM oM⟩
 ·
  have hc6p := of_decide_eq_false hc6
  obtain rfl : k = 64 := by omega
  refine X6 ?_
  refine Qm (Qm (Xi ?_))
  refine sR <| Ya s4 <| Ya s5 <| Ya s6 <| Ya s7 <| Ya s8 <| Ya s9 <| Ya s10 <| Ya s11 <| Qd (Gq u32 [sa, sz, sc, se, sf, sg, sh, sk] Xf Uk Jc Zj rfl rfl) <| Zp (i64 0) ?_
  refine rN (V5 ?_)
  refine Wx 9 ?_
  refine Zt (sR ?_)
  refine Qd (Jf 0 8) ?_
  refine rN (Qa ?_)
  refine Za rfl Jg ?_
  refine Qs (Qc (Qa (Qk (sR ?_))))
  refine Zp (i64 0) <| Qd (v := (u32 sa)) (J7 (i := 0) Jc Xx rfl Zj rfl rfl oM sD (Qx _ _ 0 X7)) <| Zz (i64 0) <| Zz (u32 sa) <| rN <| Xl (dl 10) 10 Xw <| Um rfl s0 <| Ky rfl (i64 0) <| Yb rfl (Zh rfl) <| Yb rfl (Zr (r := 0) Vq rfl Jr Uk rfl rfl) <| Yb rfl (Xv 0 0 Jc Zj rfl) <| Yn (v := (u32 x0)) rfl (fun _ e' => Ql Xx rfl rfl (m5.ext e').h0 rfl) ?_
  refine Ky rfl (u32 sa) <| Yb rfl (X5 rfl rfl) <| Yb rfl (Zh rfl) <| Yb rfl (Zr (r := 0) Vq rfl Jr Uk rfl rfl) <| Gs m5 fun w19 m19 => Qd (Xv 0 0 Jc Zj rfl) <| Vk (Un Zj rfl rfl (Xf _) m19.h0 X7 (.inl (Nat.zero_le _))) ?_
  rintro _ w20 uq20
  have m20 : Mem _ _ [(bd, .cells #[(u32 (x0 + sa)), (u32 x1), (u32 x2), (u32 x3), (u32 x4), (u32 x5), (u32 x6), (u32 x7), v, (u64 n)] 154 (0, 0))] := m19.upd0 uq20
  refine Zv (Qh (Qb ?_))
  refine Qd (v := (i64 1)) (Yo 0 1) <| Zp (i64 1) ?_
  refine rN (Zt (sR ?_))
  refine Qd (Jf 1 8) ?_
  refine rN (Qa ?_)
  refine Za rfl Jg ?_
  refine Qs (Qc (Qa (Qk (sR ?_))))
  refine Zp (i64 1) <| Qd (v := (u32 sz)) (J7 (i := 1) Jc Xx rfl Zj rfl rfl oM sD (Qx _ _ 0 X7)) <| Zz (i64 1) <| Zz (u32 sz) <| rN <| Xl (dl 10) 10 Xw <| Um rfl s0 <| Ky rfl (i64 1) <| Yb rfl (Zh rfl) <| Yb rfl (Zr (r := 0) Vq rfl Jr Uk rfl rfl) <| Yb rfl (Xv 1 1 Jc Zj rfl) <| Yn (v := (u32 x1)) rfl (fun _ e' => Ql Xx rfl rfl (m20.ext e').h0 rfl) ?_
  refine Ky rfl (u32 sz) <| Yb rfl (X5 rfl rfl) <| Yb rfl (Zh rfl) <| Yb rfl (Zr (r := 0) Vq rfl Jr Uk rfl rfl) <| Gs m20 fun w21 m21 => Qd (Xv 1 1 Jc Zj rfl) <| Vk (Un Zj rfl rfl (Xf _) m21.h0 X7 (.inl (Nat.zero_le _))) ?_
  rintro _ w22 uq22
  have m22 : Mem _ _ [(bd, .cells #[(u32 (x0 + sa)), (u32 (x1 + sz)), (u32 x2), (u32 x3), (u32 x4), (u32 x5), (u32 x6), (u32 x7), v, (u64 n)] 154 (0, 0))] := m21.upd0 uq22
  refine Zv (Qh (Qb ?_))
  refine Qd (v := (i64 2)) (Yo 1 1) <| Zp (i64 2) ?_
  refine rN (Zt (sR ?_))
  refine Qd (Jf 2 8) ?_
  refine rN (Qa ?_)
  refine Za rfl Jg ?_
  refine Qs (Qc (Qa (Qk (sR ?_))))
  refine Zp (i64 2) <| Qd (v := (u32 sc)) (J7 (i := 2) Jc Xx rfl Zj rfl rfl oM sD (Qx _ _ 0 X7)) <| Zz (i64 2) <| Zz (u32 sc) <| rN <| Xl (dl 10) 10 Xw <| Um rfl s0 <| Ky rfl (i64 2) <| Yb rfl (Zh rfl) <| Yb rfl (Zr (r := 0) Vq rfl Jr Uk rfl rfl) <| Yb rfl (Xv 2 2 Jc Zj rfl) <| Yn (v := (u32 x2)) rfl (fun _ e' => Ql Xx rfl rfl (m22.ext e').h0 rfl) ?_
  refine Ky rfl (u32 sc) <| Yb rfl (X5 rfl rfl) <| Yb rfl (Zh rfl) <| Yb rfl (Zr (r := 0) Vq rfl Jr Uk rfl rfl) <| Gs m22 fun w23 m23 => Qd (Xv 2 2 Jc Zj rfl) <| Vk (Un Zj rfl rfl (Xf _) m23.h0 X7 (.inl (Nat.zero_le _))) ?_
  rintro _ w24 uq24
  have m24 : Mem _ _ [(bd, .cells #[(u32 (x0 + sa)), (u32 (x1 + sz)), (u32 (x2 + sc)), (u32 x3), (u32 x4), (u32 x5), (u32 x6), (u32 x7), v, (u64 n)] 154 (0, 0))] := m23.upd0 uq24
  refine Zv (Qh (Qb ?_))
  refine Qd (v := (i64 3)) (Yo 2 1) <| Zp (i64 3) ?_
  refine rN (Zt (sR ?_))
  refine Qd (Jf 3 8) ?_
  refine rN (Qa ?_)
  refine Za rfl Jg ?_
  refine Qs (Qc (Qa (Qk (sR ?_))))
  refine Zp (i64 3) <| Qd (v := (u32 se)) (J7 (i := 3) Jc Xx rfl Zj rfl rfl oM sD (Qx _ _ 0 X7)) <| Zz (i64 3) <| Zz (u32 se) <| rN <| Xl (dl 10) 10 Xw <| Um rfl s0 <| Ky rfl (i64 3) <| Yb rfl (Zh rfl) <| Yb rfl (Zr (r := 0) Vq rfl Jr Uk rfl rfl) <| Yb rfl (Xv 3 3 Jc Zj rfl) <| Yn (v := (u32 x3)) rfl (fun _ e' => Ql Xx rfl rfl (m24.ext e').h0 rfl) ?_
  refine Ky rfl (u32 se) <| Yb rfl (X5 rfl rfl) <| Yb rfl (Zh rfl) <| Yb rfl (Zr (r := 0) Vq rfl Jr Uk rfl rfl) <| Gs m24 fun w25 m25 => Qd (Xv 3 3 Jc Zj rfl) <| Vk (Un Zj rfl rfl (Xf _) m25.h0 X7 (.inl (Nat.zero_le _))) ?_
  rintro _ w26 uq26
  have m26 : Mem _ _ [(bd, .cells #[(u32 (x0 + sa)), (u32 (x1 + sz)), (u32 (x2 + sc)), (u32 (x3 + se)), (u32 x4), (u32 x5), (u32 x6), (u32 x7), v, (u64 n)] 154 (0, 0))] := m25.upd0 uq26
  refine Zv (Qh (Qb ?_))
  refine Qd (v := (i64 4)) (Yo 3 1) <| Zp (i64 4) <| rN ?_
  refine CR.abs (fun g => g 0 = (ptr bd 0) ∧ g 1 = vb ∧ g 4 = (u32 sa) ∧ g 5 = (u32 sz) ∧ g 6 = (u32 sc) ∧ g 7 = (u32 se) ∧ g 8 = (u32 sf) ∧ g 9 = (u32 sg) ∧ g 10 = (u32 sh) ∧ g 11 = (u32 sk) ∧ g 16 = (i64 3) ∧ g 17 = (u32 se) ∧ g 59 = (agg u32 (Dk l)) ∧ g 60 = (i64 (64 : Int)) ∧ g 61 = (bl (decide ((64 : Int) < 64))) ∧ g 132 = (agg u32 ([sa, sz, sc, se, sf, sg, sh, sk])) ∧ g 133 = (i64 4) ∧ g 134 = (bl true) ∧ True) ⟨s0, s1, s4, s5, s6, s7, s8, s9, s10, s11, rfl, rfl, s59, s60, rfl, rfl, rfl, rfl, trivial⟩ ?_
  rintro fr27 ⟨s0, s1, s4, s5, s6, s7, s8, s9, s10, s11, s16, s17, s59, s60, s61, s132, s133, s134, _⟩
  refine Zt (sR ?_)
  refine Qd (Z9 (a := 4) (b := 8) s133 rfl) ?_
  refine rN (Qa ?_)
  refine Za rfl Jg ?_
  refine Qs (Qc (Qa (Qk (sR ?_))))
  refine Ya s133 <| Qd (v := (u32 sf)) (J7 (i := 4) Jc Xx rfl Zj s132 s133 oM sD (Qx _ _ 0 X7)) <| Zz (i64 4) <| Zz (u32 sf) <| rN <| Xl (dl 10) 10 Xw <| Um rfl s0 <| Ky rfl (i64 4) <| Yb rfl (Zh rfl) <| Yb rfl (Zr (r := 0) Vq rfl Jr Uk rfl rfl) <| Yb rfl (Xv 4 4 Jc Zj rfl) <| Yn (v := (u32 x4)) rfl (fun _ e' => Ql Xx rfl rfl (m26.ext e').h0 rfl) ?_
  refine Ky rfl (u32 sf) <| Yb rfl (X5 rfl rfl) <| Yb rfl (Zh rfl) <| Yb rfl (Zr (r := 0) Vq rfl Jr Uk rfl rfl) <| Gs m26 fun w28 m28 => Qd (Xv 4 4 Jc Zj rfl) <| Vk (Un Zj rfl rfl (Xf _) m28.h0 X7 (.inl (Nat.zero_le _))) ?_
  rintro _ w29 uq29
  have m29 : Mem _ _ [(bd, .cells #[(u32 (x0 + sa)), (u32 (x1 + sz)), (u32 (x2 + sc)), (u32 (x3 + se)), (u32 (x4 + sf)), (u32 x5), (u32 x6), (u32 x7), v, (u64 n)] 154 (0, 0))] := m28.upd0 uq29
  refine Zv (Qh (Qb ?_))
  refine Qd (v := (i64 5)) (Zg (a := 4) (b := 1) s133 rfl oM oM) <| Zp (i64 5) ?_
  refine rN (Zt (sR ?_))
  refine Qd (Jf 5 8) ?_
  refine rN (Qa ?_)
  refine Za rfl Jg ?_
  refine Qs (Qc (Qa (Qk (sR ?_))))
  refine Zp (i64 5) <| Qd (v := (u32 sg)) (J7 (i := 5) Jc Xx rfl Zj s132 rfl oM sD (Qx _ _ 0 X7)) <| Zz (i64 5) <| Zz (u32 sg) <| rN <| Xl (dl 10) 10 Xw <| Um rfl s0 <| Ky rfl (i64 5) <| Yb rfl (Zh rfl) <| Yb rfl (Zr (r := 0) Vq rfl Jr Uk rfl rfl) <| Yb rfl (Xv 5 5 Jc Zj rfl) <| Yn (v := (u32 x5)) rfl (fun _ e' => Ql Xx rfl rfl (m29.ext e').h0 rfl) ?_
  refine Ky rfl (u32 sg) <| Yb rfl (X5 rfl rfl) <| Yb rfl (Zh rfl) <| Yb rfl (Zr (r := 0) Vq rfl Jr Uk rfl rfl) <| Gs m29 fun w30 m30 => Qd (Xv 5 5 Jc Zj rfl) <| Vk (Un Zj rfl rfl (Xf _) m30.h0 X7 (.inl (Nat.zero_le _))) ?_
  rintro _ w31 uq31
  have m31 : Mem _ _ [(bd, .cells #[(u32 (x0 + sa)), (u32 (x1 + sz)), (u32 (x2 + sc)), (u32 (x3 + se)), (u32 (x4 + sf)), (u32 (x5 + sg)), (u32 x6), (u32 x7), v, (u64 n)] 154 (0, 0))] := m30.upd0 uq31
  refine Zv (Qh (Qb ?_))
  refine Qd (v := (i64 6)) (Yo 5 1) <| Zp (i64 6) ?_
  refine rN (Zt (sR ?_))
  refine Qd (Jf 6 8) ?_
  refine rN (Qa ?_)
  refine Za rfl Jg ?_
  refine Qs (Qc (Qa (Qk (sR ?_))))
  refine Zp (i64 6) <| Qd (v := (u32 sh)) (J7 (i := 6) Jc Xx rfl Zj s132 rfl oM sD (Qx _ _ 0 X7)) <| Zz (i64 6) <| Zz (u32 sh) <| rN <| Xl (dl 10) 10 Xw <| Um rfl s0 <| Ky rfl (i64 6) <| Yb rfl (Zh rfl) <| Yb rfl (Zr (r := 0) Vq rfl Jr Uk rfl rfl) <| Yb rfl (Xv 6 6 Jc Zj rfl) <| Yn (v := (u32 x6)) rfl (fun _ e' => Ql Xx rfl rfl (m31.ext e').h0 rfl) ?_
  refine Ky rfl (u32 sh) <| Yb rfl (X5 rfl rfl) <| Yb rfl (Zh rfl) <| Yb rfl (Zr (r := 0) Vq rfl Jr Uk rfl rfl) <| Gs m31 fun w32 m32 => Qd (Xv 6 6 Jc Zj rfl) <| Vk (Un Zj rfl rfl (Xf _) m32.h0 X7 (.inl (Nat.zero_le _))) ?_
  rintro _ w33 uq33
  have m33 : Mem _ _ [(bd, .cells #[(u32 (x0 + sa)), (u32 (x1 + sz)), (u32 (x2 + sc)), (u32 (x3 + se)), (u32 (x4 + sf)), (u32 (x5 + sg)), (u32 (x6 + sh)), (u32 x7), v, (u64 n)] 154 (0, 0))] := m32.upd0 uq33
  refine Zv (Qh (Qb ?_))
  refine Qd (v := (i64 7)) (Yo 6 1) <| Zp (i64 7) ?_
  refine rN (Zt (sR ?_))
  refine Qd (Jf 7 8) ?_
  refine rN (Qa ?_)
  refine Za rfl Jg ?_
  refine Qs (Qc (Qa (Qk (sR ?_))))
  refine Zp (i64 7) <| Qd (v := (u32 sk)) (J7 (i := 7) Jc Xx rfl Zj s132 rfl oM sD (Qx _ _ 0 X7)) <| Zz (i64 7) <| Zz (u32 sk) <| rN <| Xl (dl 10) 10 Xw <| Um rfl s0 <| Ky rfl (i64 7) <| Yb rfl (Zh rfl) <| Yb rfl (Zr (r := 0) Vq rfl Jr Uk rfl rfl) <| Yb rfl (Xv 7 7 Jc Zj rfl) <| Yn (v := (u32 x7)) rfl (fun _ e' => Ql Xx rfl rfl (m33.ext e').h0 rfl) ?_
  refine Ky rfl (u32 sk) <| Yb rfl (X5 rfl rfl) <| Yb rfl (Zh rfl) <| Yb rfl (Zr (r := 0) Vq rfl Jr Uk rfl rfl) <| Gs m33 fun w34 m34 => Qd (Xv 7 7 Jc Zj rfl) <| Vk (Un Zj rfl rfl (Xf _) m34.h0 X7 (.inl (Nat.zero_le _))) ?_
  rintro _ w35 uq35
  have m35 : Mem _ _ [(bd, .cells #[(u32 (x0 + sa)), (u32 (x1 + sz)), (u32 (x2 + sc)), (u32 (x3 + se)), (u32 (x4 + sf)), (u32 (x5 + sg)), (u32 (x6 + sh)), (u32 (x7 + sk)), v, (u64 n)] 154 (0, 0))] := m34.upd0 uq35
  refine Zv (Qh (Qb ?_))
  refine Qd (v := (i64 8)) (Yo 7 1) <| Zp (i64 8) ?_
  refine rN (Zt (sR ?_))
  refine Qd (Jf 8 8) ?_
  refine rN (Qa ?_)
  refine Yy rfl Jg <| X6 ?_
  refine Qm (Qm (Xi ?_))
  refine Ld [] trivial ?_
  exact ⟨_, _, _, _, _, _, _, _, by rw [Qg2, ← hs]; rfl, m35⟩
end Go.Proofs.YtkmiemlpfkfiiaaDoor
