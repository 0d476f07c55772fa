/- Contracts: hash, first part. Conditions: none beyond those that each theorem states. -/
import Derived.Test.YtkmiemlpfkfiiaaDoorTab
import Derived.Test.YtkmiemlpfkfiiaaDoorFwM
import Derived.Test.YtkmiemlpfkfiiaaDoorSt6
namespace Go.Proofs.YtkmiemlpfkfiiaaDoor
set_option linter.unusedVariables false
set_option linter.unusedSimpArgs false
def Tf : List (BitVec 32) := [1779033703#32, 3144134277#32, 1013904242#32, 2773480762#32, 1359893119#32, 2600822924#32, 528734635#32, 1541459225#32]
def Ud : List (BitVec 32) := [1116352408#32, 1899447441#32, 3049323471#32, 3921009573#32, 961987163#32, 1508970993#32, 2453635748#32, 2870763221#32, 3624381080#32, 310598401#32, 607225278#32, 1426881987#32, 1925078388#32, 2162078206#32, 2614888103#32, 3248222580#32, 3835390401#32, 4022224774#32, 264347078#32, 604807628#32, 770255983#32, 1249150122#32, 1555081692#32, 1996064986#32, 2554220882#32, 2821834349#32, 2952996808#32, 3210313671#32, 3336571891#32, 3584528711#32, 113926993#32, 338241895#32, 666307205#32, 773529912#32, 1294757372#32, 1396182291#32, 1695183700#32, 1986661051#32, 2177026350#32, 2456956037#32, 2730485921#32, 2820302411#32, 3259730800#32, 3345764771#32, 3516065817#32, 3600352804#32, 4094571909#32, 275423344#32, 430227734#32, 506948616#32, 659060556#32, 883997877#32, 958139571#32, 1322822218#32, 1537002063#32, 1747873779#32, 1955562222#32, 2024104815#32, 2227730452#32, 2361852424#32, 2428436474#32, 2756734187#32, 3204031479#32, 3329325298#32]
@[simp] theorem roundL_length : Ud.length = 64 := rfl
structure Tabs (m : Nat → Option Obj) : Prop where
 start : ∃ E fz, m 0 = some (.cells (cl u32 [1779033703#32, 3144134277#32, 1013904242#32, 2773480762#32, 1359893119#32, 2600822924#32, 528734635#32, 1541459225#32]) E fz)
 round : ∃ E fz, m 1 = some (.cells (cl u32 Ud) E fz)
theorem Tabs.mono {m m' : Nat → Option Obj} (h : Tabs m) (hm : ∀ b o, m b = some o → m' b = some o) : Tabs m' :=
 ⟨let ⟨E, fz, e⟩ := h.start; ⟨E, fz, hm _ _ e⟩, let ⟨E, fz, e⟩ := h.round; ⟨E, fz, hm _ _ e⟩⟩
def be4 (a b c d : BitVec 8) : BitVec 32 := (((0#32 <<< 8 ||| a.setWidth 32) <<< 8 ||| b.setWidth 32) <<< 8 ||| c.setWidth 32) <<< 8 ||| d.setWidth 32
def Qbc (l : List (BitVec 8)) (w : List (BitVec 32)) (k : Nat) : BitVec 32 :=
 if k < 16 then be4 (l.getD (4 * k) 0) (l.getD (4 * k + 1) 0) (l.getD (4 * k + 2) 0) (l.getD (4 * k + 3) 0)
 else (w.getD (k - 16) 0 + w.getD (k - 7) 0) + ((Zb (w.getD (k - 15) 0) (-7) ^^^ Zb (w.getD (k - 15) 0) (-18)) ^^^ (w.getD (k - 15) 0) >>> 3)
  + ((Zb (w.getD (k - 2) 0) (-17) ^^^ Zb (w.getD (k - 2) 0) (-19)) ^^^ (w.getD (k - 2) 0) >>> 10)
def Jv (l : List (BitVec 8)) : Nat → List (BitVec 32)
 | 0 => List.replicate 64 0
 | k + 1 => (Jv l k).set k (Qbc l (Jv l k) k)
@[simp] theorem Nb (l : List (BitVec 8)) (k : Nat) : (Jv l k).length = 64 := by
 induction k with
 | zero => simp [Jv]
 | succ k ih => simp [Jv, ih]
theorem Qgy (l : List (BitVec 8)) : ∀ (k j : Nat), k ≤ j → (Jv l k).getD j 0 = 0 := by
 intro k
 induction k with
 | zero =>
  intro j _
  simp only [Jv, List.getD_eq_getElem?_getD, List.getElem?_replicate]
  split <;> rfl
 | succ k ih =>
  intro j h
  have := ih j oM
  simp only [Jv, List.getD_eq_getElem?_getD, List.getElem?_set] at this ⊢
  rw [if_neg oM]; exact this
theorem Dv {α : Type} (l : List α) (k : Nat) (a z : α) (h : k < l.length) : (l.set k a).getD k z = a := by simp [List.getD_eq_getElem?_getD, h]
theorem Qeg (l : List (BitVec 8)) (k : Nat) (h : k < 16) (a b c d : BitVec 8) (ha : a = l.getD (4 * k) 0) (hb : b = l.getD (4 * k + 1) 0) (hc : c = l.getD (4 * k + 2) 0) (hd : d = l.getD (4 * k + 3) 0) (w : List (BitVec 32)) (hw : w = Jv l k) :
  (((w.set k (w.getD k 0 <<< 8 ||| a.setWidth 32)).set k ((w.set k (w.getD k 0 <<< 8 ||| a.setWidth 32)).getD k 0 <<< 8 ||| b.setWidth 32)).set k
   (((w.set k (w.getD k 0 <<< 8 ||| a.setWidth 32)).set k ((w.set k (w.getD k 0 <<< 8 ||| a.setWidth 32)).getD k 0 <<< 8 ||| b.setWidth 32)).getD k 0 <<< 8 ||| c.setWidth 32)).set k
   ((((w.set k (w.getD k 0 <<< 8 ||| a.setWidth 32)).set k ((w.set k (w.getD k 0 <<< 8 ||| a.setWidth 32)).getD k 0 <<< 8 ||| b.setWidth 32)).set k
   (((w.set k (w.getD k 0 <<< 8 ||| a.setWidth 32)).set k ((w.set k (w.getD k 0 <<< 8 ||| a.setWidth 32)).getD k 0 <<< 8 ||| b.setWidth 32)).getD k 0 <<< 8 ||| c.setWidth 32)).getD k 0 <<< 8 ||| d.setWidth 32) = Jv l (k + 1) := by
 subst hw ha hb hc hd
 simp only [Jv, List.set_set]
 rw [Dv _ _ _ _ (by simp; omega), Dv _ _ _ _ (by simp; omega), Dv _ _ _ _ (by simp; omega), Qgy l k k (Nat.le_refl _)]
 unfold Qbc
 rw [if_pos h]; rfl
theorem Qk4 (l : List (BitVec 8)) (k : Nat) (h : ¬ k < 16) (h2 : k < 64) (w : List (BitVec 32)) (hw : w = Jv l k) (A B C : BitVec 32)
  (hA : A = w.getD (k - 16) 0 + w.getD (k - 7) 0) (hB : B = (Zb (w.getD (k - 15) 0) (-7) ^^^ Zb (w.getD (k - 15) 0) (-18)) ^^^ (w.getD (k - 15) 0) >>> 3)
  (hC : C = (Zb (w.getD (k - 2) 0) (-17) ^^^ Zb (w.getD (k - 2) 0) (-19)) ^^^ (w.getD (k - 2) 0) >>> 10) :
  ((w.set k A).set k ((w.set k A).getD k 0 + B)).set k (((w.set k A).set k ((w.set k A).getD k 0 + B)).getD k 0 + C) = Jv l (k + 1) := by
 subst hw hA hB hC
 simp only [Jv, List.set_set]
 rw [Dv _ _ _ _ (by simp; omega), Dv _ _ _ _ (by simp; omega)]
 unfold Qbc
 rw [if_neg h]
theorem Ll (l : List (BitVec 8)) (k : Nat) (h : 4 * k + 4 ≤ l.length) : (l.drop (4 * (k : Int)).toNat).take ((4 * (k : Int) + 4).toNat - (4 * (k : Int)).toNat) = [l.getD (4 * k) 0, l.getD (4 * k + 1) 0, l.getD (4 * k + 2) 0, l.getD (4 * k + 3) 0] := by
 have e1 : (4 * (k : Int)).toNat = 4 * k := by omega
 have e2 : (4 * (k : Int) + 4).toNat - (4 * (k : Int)).toNat = 4 := by omega
 rw [e2, e1]
 refine List.ext_getElem (by simp; omega) fun i h1 h2 => ?_
 simp only [List.length_cons, List.length_nil] at h2
 have : i = 0 ∨ i = 1 ∨ i = 2 ∨ i = 3 := by omega
 rcases this with rfl | rfl | rfl | rfl <;> simp [List.getD_eq_getElem?_getD] <;> rw [List.getElem?_eq_getElem oM] <;> rfl
def Uz (l : List (BitVec 8)) : List (BitVec 32) := Jv l 64
@[simp] theorem schedP_length (l : List (BitVec 8)) : (Uz l).length = 64 := Nb l 64
def rnd (w t : BitVec 32) : List (BitVec 32) → List (BitVec 32)
 | [a, z, c, e, f, g, h, k] =>
  let t1 := (((k + w) + t) + ((f &&& g) ^^^ (~~~f &&& h))) + ((Zb f (-6) ^^^ Zb f (-11)) ^^^ Zb f (-25))
  let u := (((a &&& z) ^^^ (a &&& c)) ^^^ (z &&& c)) + ((Zb a (-2) ^^^ Zb a (-13)) ^^^ Zb a (-22))
  [t1 + u, a, z, c, e + t1, f, g, h]
 | l => l
def Nh (wl : List (BitVec 32)) : Nat → List (BitVec 32) → List (BitVec 32)
 | 0, s => s
 | k + 1, s => rnd (wl.getD k 0) (Ud.getD k 0) (Nh wl k s)
def Qed (h : List (BitVec 32)) (l : List (BitVec 8)) : List (BitVec 32) := List.zipWith (· + ·) h (Nh (Uz l) 64 h)
theorem c_hnew  (w0 : World)  (hT : Tabs (Yq w0)) : Xz Tryd.prog 84 #[] w0 (fun r w1 => ∃ b, r = ptr b 0 ∧ Mem w1 (Qy w0) [(b, .cells #[(u32 1779033703#32), (u32 3144134277#32), (u32 1013904242#32), (u32 2773480762#32), (u32 1359893119#32), (u32 2600822924#32), (u32 528734635#32), (u32 1541459225#32), (Value.slice none 0 0), (u64 0#64)] 154 (0, 0))]) := by
 refine Zd (args := []) Tryd.func84 rfl Tryd.ntmps84 Tryd.results84 rfl ?_
 have m0 : Mem w0 (Qy w0) [] := Mem.of_world w0
 obtain ⟨Es, fzs, hTs⟩ := hT.start
 obtain ⟨Er, fzr, hTr⟩ := hT.round
 refine sR <| Qa rfl (Qc (v := (Value.pointer none)) rfl) ?_
 refine rN (sR ?_)
 refine Qa rfl (Qw Yh rfl V5 rfl (m0.rest _ _ hTs) sZ) <| Qa rfl (Vd (c := #[(u32 1779033703#32), (u32 3144134277#32), (u32 1013904242#32), (u32 2773480762#32), (u32 1359893119#32), (u32 2600822924#32), (u32 528734635#32), (u32 1541459225#32), (Value.slice none 0 0), (u64 0)]) (pl := [(0, 8), (8, 1), (9, 1)]) Qfn Kq (by kernel_rfl) (Y2 (i := 0) (v := (agg u32 ([1779033703#32, 3144134277#32, 1013904242#32, 2773480762#32, 1359893119#32, 2600822924#32, 528734635#32, 1541459225#32]))) (cs := (cl u32 ([1779033703#32, 3144134277#32, 1013904242#32, 2773480762#32, 1359893119#32, 2600822924#32, 528734635#32, 1541459225#32]))) rfl rfl Vo) (by kernel_rfl)) <| Za rfl (Gx (cs := #[(u32 1779033703#32), (u32 3144134277#32), (u32 1013904242#32), (u32 2773480762#32), (u32 1359893119#32), (u32 2600822924#32), (u32 528734635#32), (u32 1541459225#32), (Value.slice none 0 0), (u64 0)]) m0 rfl) ?_
 rintro _ w1 ⟨b3, rfl, e1, m1⟩
 refine Qa rfl (Qc (v := (ptr b3 0)) rfl) ?_
 refine rN (Xt ?_)
 refine Ze [(ptr b3 0)] ⟨rfl, trivial⟩ ?_
 exact ⟨b3, rfl, m1⟩
theorem Ql7 (vb : Value) (l : List (BitVec 8)) (w0 : World)  (hr : Rd (Yq w0) u8 vb l) (hl : l.length = 64) : Xz Tryd.prog 111 #[vb] w0 (fun r w1 => r = (agg u32 (Uz l)) ∧ Ext w0 w1) := by
 refine Zd (args := [vb]) Tryd.func111 rfl Tryd.ntmps111 Tryd.results111 rfl ?_
 have m0 : Mem w0 (Qy w0) [] := Mem.of_world w0
 refine sR <| Za rfl (Zg m0 Rt) ?_
 rintro _ w1 ⟨b2, rfl, _ew1, m1⟩
 refine rN (Qg (sR ?_))
 refine Qa rfl (Qb (v := (i64 0)) rfl) ?_
 refine rN (Qo ?_)
 refine Yo (fun g wv => ∃ (k : Nat) (wl : List (BitVec 32)), (k ≤ 64) ∧ (wl = Jv l k) ∧ g 0 = vb ∧ g 2 = (ptr b2 0) ∧ g 8 = (i64 (k : Int)) ∧ Mem wv (Qy w0) [(b2, .cells (cl u32 wl) 160 (0, 0))]) (fun g wv => (64 - RowKit.intOf (g 8)).toNat) ?_ ?_
 ·exact ⟨0, _, oM, rfl, rfl, rfl, rfl, m1⟩
 rintro fr2 w3 ⟨k, wl, hk1, hw, s0, s2, s8, m3⟩
 have z8 := s8
 have hwl : wl.length = 64 := by rw [hw]; simp
 refine sR <| Qa rfl (Qs (b := 64) s8 rfl) ?_
 refine rN (Qg ?_)
 refine Xv rfl (fun hc4 => ?_) (fun hc4 => ?_)
 ·
  have hc4p := of_decide_eq_true hc4
  refine Q7 (Qh (Qg (Qo (sR ?_))))
  refine rM rfl s8 <| Qa rfl (Qc (v := (i64 (k : Int))) rfl) ?_
  refine rN (Qg (sR ?_))
  refine Qa rfl (Qb (v := (i64 (k : Int))) rfl) <| Qa rfl (Qs (b := 16) rfl rfl) <| rN ?_
  refine Xv rfl (fun hc5 => ?_) (fun hc5 => ?_)
  ·
   have hc5p := of_decide_eq_true hc5
   refine Qg (sR ?_)
   refine rM rfl s0 <| Qa rfl (Qb (v := (i64 (k : Int))) rfl) <| Qa rfl (Z7 (a := 4) rfl rfl oM oM) <| Qa rfl (Qb (v := (i64 (k : Int))) rfl) <| Qa rfl (Z7 (a := 4) rfl rfl oM oM) <| Qa rfl (Qk (b := 4) rfl rfl oM oM) <| Qa rfl (Fb (i := 4 * (k : Int)) (j := 4 * (k : Int) + 4) (Rd.ofRest hr m3) Zi X6 rfl (Jt (k := .i64) (i := 4 * (k : Int)) rfl) (Jt (k := .i64) (i := 4 * (k : Int) + 4) rfl) oM oM oM) <| Qa rfl (Ye (l := [l.getD (4 * k) 0, l.getD (4 * k + 1) 0, l.getD (4 * k + 2) 0, l.getD (4 * k + 3) 0]) (Rd.cast (Rd.sub (Rd.ofRest hr m3) oM oM oM) (Ll l k oM)) Zi rfl) <| Qa rfl (Qb (v := (i64 0)) rfl) ?_
   refine rN (Qo ?_)
   refine Kw 5 ?_
   refine Zq (sR ?_)
   refine Qa rfl (Qs (a := 0) (b := 4) rfl rfl) ?_
   refine rN (Qg ?_)
   refine Zc rfl (by decide) ?_
   refine Q7 (Qh (Qg (Qo (sR ?_))))
   refine Qa rfl (Xa (i := 0) (Rd.cast (Rd.sub (Rd.ofRest hr m3) oM oM oM) (Ll l k oM)) Zi X6 rfl rfl oM (by simp)) <| Qa (v := (u8 (l.getD (4 * k) 0))) rfl (Yc (l := [l.getD (4 * k) 0, l.getD (4 * k + 1) 0, l.getD (4 * k + 2) 0, l.getD (4 * k + 3) 0]) (i := 0) (dflt := 0) (Rd.cast (Rd.sub (Rd.ofRest hr m3) oM oM oM) (Ll l k oM)) Vm rfl oM (by simp) rfl) <| Qa rfl (Qc (v := (u8 (l.getD (4 * k) 0))) rfl) ?_
   refine rN (Qe ?_)
   refine Qa rfl (Qb (v := (i64 (k : Int))) rfl) <| Qa rfl (Qb (v := (i64 (k : Int))) rfl) <| Qa rfl (Qd (r := k) oM Vj Zh s2 rfl oM sD) <| Qa rfl (Qn Xk rfl rfl m3.h0 (Qx _ _ 0 sD)) <| Qa rfl (G8 (b := 8) rfl rfl oM) <| Qa rfl (Qb (v := (u8 (l.getD (4 * k) 0))) rfl) <| Qa rfl (Jh ⟨_, Vm⟩ Xk rfl) <| Qa rfl (U5 rfl rfl) <| Qa rfl (Qd (r := k) oM Vj Zh s2 rfl oM sD) <| Zw (Xn (f := u32) (a := ((wl.getD k 0) <<< 8) ||| ((l.getD (4 * k) 0).setWidth 32)) Z5 Zh rfl rfl m3.h0 sD (.inl (Nat.zero_le _))) ?_
   rintro _ w6 uq6
   have m6 := m3.upd0 uq6
   refine Zr (Qi (Qe ?_))
   refine Qa (v := (i64 1)) rfl (Qk (a := 0) (b := 1) rfl rfl oM oM) <| Qa rfl (Qb (v := (i64 1)) rfl) ?_
   refine rN (Zq (sR ?_))
   refine Qa rfl (Qs (a := 1) (b := 4) rfl rfl) ?_
   refine rN (Qg ?_)
   refine Zc rfl (by decide) ?_
   refine Q7 (Qh (Qg (Qo (sR ?_))))
   refine Qa rfl (Xa (i := 1) (Rd.cast (Rd.sub (Rd.ofRest hr m6) oM oM oM) (Ll l k oM)) Zi X6 rfl rfl oM (by simp)) <| Qa (v := (u8 (l.getD (4 * k + 1) 0))) rfl (Yc (l := [l.getD (4 * k) 0, l.getD (4 * k + 1) 0, l.getD (4 * k + 2) 0, l.getD (4 * k + 3) 0]) (i := 1) (dflt := 0) (Rd.cast (Rd.sub (Rd.ofRest hr m6) oM oM oM) (Ll l k oM)) Vm rfl oM (by simp) rfl) <| Qa rfl (Qc (v := (u8 (l.getD (4 * k + 1) 0))) rfl) ?_
   refine rN (Qe ?_)
   refine Qa rfl (Qb (v := (i64 (k : Int))) rfl) <| Qa rfl (Qb (v := (i64 (k : Int))) rfl) <| Qa rfl (Qd (r := k) oM Vj Zh s2 rfl oM sD) <| Qa rfl (Qn Xk rfl rfl m6.h0 (Qx _ _ 0 sD)) <| Qa rfl (G8 (b := 8) rfl rfl oM) <| Qa rfl (Qb (v := (u8 (l.getD (4 * k + 1) 0))) rfl) <| Qa rfl (Jh ⟨_, Vm⟩ Xk rfl) <| Qa rfl (U5 rfl rfl) <| Qa rfl (Qd (r := k) oM Vj Zh s2 rfl oM sD) <| Zw (Xn (f := u32) (a := (((wl.set k (((wl.getD k 0) <<< 8) ||| ((l.getD (4 * k) 0).setWidth 32))).getD k 0) <<< 8) ||| ((l.getD (4 * k + 1) 0).setWidth 32)) Z5 Zh rfl rfl m6.h0 sD (.inl (Nat.zero_le _))) ?_
   rintro _ w7 uq7
   have m7 := m6.upd0 uq7
   refine Zr (Qi (Qe ?_))
   refine Qa (v := (i64 2)) rfl (Qk (a := 1) (b := 1) rfl rfl oM oM) <| Qa rfl (Qb (v := (i64 2)) rfl) ?_
   refine rN (Zq (sR ?_))
   refine Qa rfl (Qs (a := 2) (b := 4) rfl rfl) ?_
   refine rN (Qg ?_)
   refine Zc rfl (by decide) ?_
   refine Q7 (Qh (Qg (Qo (sR ?_))))
   refine Qa rfl (Xa (i := 2) (Rd.cast (Rd.sub (Rd.ofRest hr m7) oM oM oM) (Ll l k oM)) Zi X6 rfl rfl oM (by simp)) <| Qa (v := (u8 (l.getD (4 * k + 2) 0))) rfl (Yc (l := [l.getD (4 * k) 0, l.getD (4 * k + 1) 0, l.getD (4 * k + 2) 0, l.getD (4 * k + 3) 0]) (i := 2) (dflt := 0) (Rd.cast (Rd.sub (Rd.ofRest hr m7) oM oM oM) (Ll l k oM)) Vm rfl oM (by simp) rfl) <| Qa rfl (Qc (v := (u8 (l.getD (4 * k + 2) 0))) rfl) ?_
   refine rN (Qe ?_)
   refine Qa rfl (Qb (v := (i64 (k : Int))) rfl) <| Qa rfl (Qb (v := (i64 (k : Int))) rfl) <| Qa rfl (Qd (r := k) oM Vj Zh s2 rfl oM sD) <| Qa rfl (Qn Xk rfl rfl m7.h0 (Qx _ _ 0 sD)) <| Qa rfl (G8 (b := 8) rfl rfl oM) <| Qa rfl (Qb (v := (u8 (l.getD (4 * k + 2) 0))) rfl) <| Qa rfl (Jh ⟨_, Vm⟩ Xk rfl) <| Qa rfl (U5 rfl rfl) <| Qa rfl (Qd (r := k) oM Vj Zh s2 rfl oM sD) <| Zw (Xn (f := u32) (a := ((((wl.set k (((wl.getD k 0) <<< 8) ||| ((l.getD (4 * k) 0).setWidth 32))).set k ((((wl.set k (((wl.getD k 0) <<< 8) ||| ((l.getD (4 * k) 0).setWidth 32))).getD k 0) <<< 8) ||| ((l.getD (4 * k + 1) 0).setWidth 32))).getD k 0) <<< 8) ||| ((l.getD (4 * k + 2) 0).setWidth 32)) Z5 Zh rfl rfl m7.h0 sD (.inl (Nat.zero_le _))) ?_
   rintro _ w8 uq8
   have m8 := m7.upd0 uq8
   refine Zr (Qi (Qe ?_))
   refine Qa (v := (i64 3)) rfl (Qk (a := 2) (b := 1) rfl rfl oM oM) <| Qa rfl (Qb (v := (i64 3)) rfl) ?_
   refine rN (Zq (sR ?_))
   refine Qa rfl (Qs (a := 3) (b := 4) rfl rfl) ?_
   refine rN (Qg ?_)
   refine Zc rfl (by decide) ?_
   refine Q7 (Qh (Qg (Qo (sR ?_))))
   refine Qa rfl (Xa (i := 3) (Rd.cast (Rd.sub (Rd.ofRest hr m8) oM oM oM) (Ll l k oM)) Zi X6 rfl rfl oM (by simp)) <| Qa (v := (u8 (l.getD (4 * k + 3) 0))) rfl (Yc (l := [l.getD (4 * k) 0, l.getD (4 * k + 1) 0, l.getD (4 * k + 2) 0, l.getD (4 * k + 3) 0]) (i := 3) (dflt := 0) (Rd.cast (Rd.sub (Rd.ofRest hr m8) oM oM oM) (Ll l k oM)) Vm rfl oM (by simp) rfl) <| Qa rfl (Qc (v := (u8 (l.getD (4 * k + 3) 0))) rfl) ?_
   refine rN (Qe ?_)
   refine Qa rfl (Qb (v := (i64 (k : Int))) rfl) <| Qa rfl (Qb (v := (i64 (k : Int))) rfl) <| Qa rfl (Qd (r := k) oM Vj Zh s2 rfl oM sD) <| Qa rfl (Qn Xk rfl rfl m8.h0 (Qx _ _ 0 sD)) <| Qa rfl (G8 (b := 8) rfl rfl oM) <| Qa rfl (Qb (v := (u8 (l.getD (4 * k + 3) 0))) rfl) <| Qa rfl (Jh ⟨_, Vm⟩ Xk rfl) <| Qa rfl (U5 rfl rfl) <| Qa rfl (Qd (r := k) oM Vj Zh s2 rfl oM sD) <| Zw (Xn (f := u32) (a := (((((wl.set k (((wl.getD k 0) <<< 8) ||| ((l.getD (4 * k) 0).setWidth 32))).set k ((((wl.set k (((wl.getD k 0) <<< 8) ||| ((l.getD (4 * k) 0).setWidth 32))).getD k 0) <<< 8) ||| ((l.getD (4 * k + 1) 0).setWidth 32))).set k (((((wl.set k (((wl.getD k 0) <<< 8) ||| ((l.getD (4 * k) 0).setWidth 32))).set k ((((wl.set k (((wl.getD k 0) <<< 8) ||| ((l.getD (4 * k) 0).setWidth 32))).getD k 0) <<< 8) ||| ((l.getD (4 * k + 1) 0).setWidth 32))).getD k 0) <<< 8) ||| ((l.getD (4 * k + 2) 0).setWidth 32))).getD k 0) <<< 8) ||| ((l.getD (4 * k + 3) 0).setWidth 32)) Z5 Zh rfl rfl m8.h0 sD (.inl (Nat.zero_le _))) ?_
   rintro _ w9 uq9
   have m9 := m8.upd0 uq9
   refine Zr (Qi (Qe ?_))
   refine Qa (v := (i64 4)) rfl (Qk (a := 3) (b := 1) rfl rfl oM oM) <| Qa rfl (Qb (v := (i64 4)) rfl) ?_
   refine rN (Zq (sR ?_))
   refine Qa rfl (Qs (a := 4) (b := 4) rfl rfl) ?_
   refine rN (Qg ?_)
   refine Yp rfl (by decide) <| X0 ?_
   refine Qr (Qr (Xf ?_))
   refine X0 ?_
   refine Qr (Xf ?_)
   refine Qe <| Qa rfl (Qk (b := 1) s8 rfl oM oM) <| Qa rfl (Qb (v := (i64 ((k : Int) + 1))) rfl) <| rN ?_
   have hwn : (((wl.set k (((wl.getD k 0) <<< 8) ||| ((l.getD (4 * k) 0).setWidth 32))).set k ((((wl.set k (((wl.getD k 0) <<< 8) ||| ((l.getD (4 * k) 0).setWidth 32))).getD k 0) <<< 8) ||| ((l.getD (4 * k + 1) 0).setWidth 32))).set k (((((wl.set k (((wl.getD k 0) <<< 8) ||| ((l.getD (4 * k) 0).setWidth 32))).set k ((((wl.set k (((wl.getD k 0) <<< 8) ||| ((l.getD (4 * k) 0).setWidth 32))).getD k 0) <<< 8) ||| ((l.getD (4 * k + 1) 0).setWidth 32))).getD k 0) <<< 8) ||| ((l.getD (4 * k + 2) 0).setWidth 32))).set k ((((((wl.set k (((wl.getD k 0) <<< 8) ||| ((l.getD (4 * k) 0).setWidth 32))).set k ((((wl.set k (((wl.getD k 0) <<< 8) ||| ((l.getD (4 * k) 0).setWidth 32))).getD k 0) <<< 8) ||| ((l.getD (4 * k + 1) 0).setWidth 32))).set k (((((wl.set k (((wl.getD k 0) <<< 8) ||| ((l.getD (4 * k) 0).setWidth 32))).set k ((((wl.set k (((wl.getD k 0) <<< 8) ||| ((l.getD (4 * k) 0).setWidth 32))).getD k 0) <<< 8) ||| ((l.getD (4 * k + 1) 0).setWidth 32))).getD k 0) <<< 8) ||| ((l.getD (4 * k + 2) 0).setWidth 32))).getD k 0) <<< 8) ||| ((l.getD (4 * k + 3) 0).setWidth 32)) = Jv l (k + 1) := by
    exact Qeg l k oM (l.getD (4 * k) 0) (l.getD (4 * k + 1) 0) (l.getD (4 * k + 2) 0) (l.getD (4 * k + 3) 0) rfl rfl rfl rfl wl hw
   exact ⟨⟨k + 1, (((wl.set k (((wl.getD k 0) <<< 8) ||| ((l.getD (4 * k) 0).setWidth 32))).set k ((((wl.set k (((wl.getD k 0) <<< 8) ||| ((l.getD (4 * k) 0).setWidth 32))).getD k 0) <<< 8) ||| ((l.getD (4 * k + 1) 0).setWidth 32))).set k (((((wl.set k (((wl.getD k 0) <<< 8) ||| ((l.getD (4 * k) 0).setWidth 32))).set k ((((wl.set k (((wl.getD k 0) <<< 8) ||| ((l.getD (4 * k) 0).setWidth 32))).getD k 0) <<< 8) ||| ((l.getD (4 * k + 1) 0).setWidth 32))).getD k 0) <<< 8) ||| ((l.getD (4 * k + 2) 0).setWidth 32))).set k ((((((wl.set k (((wl.getD k 0) <<< 8) ||| ((l.getD (4 * k) 0).setWidth 32))).set k ((((wl.set k (((wl.getD k 0) <<< 8) ||| ((l.getD (4 * k) 0).setWidth 32))).getD k 0) <<< 8) ||| ((l.getD (4 * k + 1) 0).setWidth 32))).set k (((((wl.set k (((wl.getD k 0) <<< 8) ||| ((l.getD (4 * k) 0).setWidth 32))).set k ((((wl.set k (((wl.getD k 0) <<< 8) ||| ((l.getD (4 * k) 0).setWidth 32))).getD k 0) <<< 8) ||| ((l.getD (4 * k + 1) 0).setWidth 32))).getD k 0) <<< 8) ||| ((l.getD (4 * k + 2) 0).setWidth 32))).getD k 0) <<< 8) ||| ((l.getD (4 * k + 3) 0).setWidth 32)), oM, hwn, s0, s2, rfl, m9⟩, Gl rfl z8 oM oM⟩
  ·
   have hc5p := of_decide_eq_false hc5
   refine Q7 (Qh (Qg ?_))
   refine Xq (dl 9) 9 (by kernel_rfl) <| Qj rfl rfl (fun _ _hx => Qb (v := (i64 (k : Int))) rfl) <| Qj rfl rfl (fun _ _hx => Zp (b := 15) rfl rfl oM oM) <| Qj rfl rfl (fun _ _hx => Qd (r := ((k : Int) - 15 : Int).toNat) oM Vj Zh s2 rfl oM sD) <| Qj (v := (u32 (wl.getD (((k : Int) - 15 : Int).toNat) 0))) rfl rfl (fun _ _hx => Qn Xk rfl rfl (m3.ext _hx).h0 (Qx _ _ 0 sD)) <| Qj rfl rfl (fun _ _hx => Qb (v := (i64 (k : Int))) rfl) <| Qj rfl rfl (fun _ _hx => Zp (b := 2) rfl rfl oM oM) <| Qj rfl rfl (fun _ _hx => Qd (r := ((k : Int) - 2 : Int).toNat) oM Vj Zh s2 rfl oM sD) <| Qj (v := (u32 (wl.getD (((k : Int) - 2 : Int).toNat) 0))) rfl rfl (fun _ _hx => Qn Xk rfl rfl (m3.ext _hx).h0 (Qx _ _ 0 sD)) <| Qj rfl rfl (fun _ _hx => Qc (v := (u32 (wl.getD (((k : Int) - 15 : Int).toNat) 0))) rfl) ?_
   refine Xd (fun w10 _ew10 => ?_)
   have m10 := m3.ext _ew10
   refine Qa rfl (Qc (v := (u32 (wl.getD (((k : Int) - 2 : Int).toNat) 0))) rfl) ?_
   refine rN (Qg ?_)
   refine Xq (dl 10) 10 (by kernel_rfl) <| Qj rfl rfl (fun _ _hx => Qb (v := (i64 (k : Int))) rfl) <| Qj rfl rfl (fun _ _hx => Qb (v := (i64 (k : Int))) rfl) <| Qj rfl rfl (fun _ _hx => Zp (b := 16) rfl rfl oM oM) <| Qj rfl rfl (fun _ _hx => Qd (r := ((k : Int) - 16 : Int).toNat) oM Vj Zh s2 rfl oM sD) <| Qj (v := (u32 (wl.getD (((k : Int) - 16 : Int).toNat) 0))) rfl rfl (fun _ _hx => Qn Xk rfl rfl (m10.ext _hx).h0 (Qx _ _ 0 sD)) <| Qj rfl rfl (fun _ _hx => Qb (v := (i64 (k : Int))) rfl) <| Qj rfl rfl (fun _ _hx => Zp (b := 7) rfl rfl oM oM) <| Qj rfl rfl (fun _ _hx => Qd (r := ((k : Int) - 7 : Int).toNat) oM Vj Zh s2 rfl oM sD) <| Qj (v := (u32 (wl.getD (((k : Int) - 7 : Int).toNat) 0))) rfl rfl (fun _ _hx => Qn Xk rfl rfl (m10.ext _hx).h0 (Qx _ _ 0 sD)) <| Qj rfl rfl (fun _ _hx => Xp rfl rfl) ?_
   refine Xd (fun w11 _ew11 => ?_)
   have m11 := m10.ext _ew11
   refine Qa rfl (Qd (r := k) oM Vj Zh s2 rfl oM sD) <| Zw (Xn (f := u32) (a := (wl.getD (((k : Int) - 16 : Int).toNat) 0) + (wl.getD (((k : Int) - 7 : Int).toNat) 0)) Z5 Zh rfl rfl m11.h0 sD (.inl (Nat.zero_le _))) ?_
   rintro _ w12 uq12
   have m12 := m11.upd0 uq12
   refine rN (Qg ?_)
   refine Xq (dl 11) 11 (by kernel_rfl) <| Qj rfl rfl (fun _ _hx => Qb (v := (i64 (k : Int))) rfl) <| Qj rfl rfl (fun _ _hx => Qd (r := k) oM Vj Zh s2 rfl oM sD) <| Qj rfl rfl (fun _ _hx => Qn Xk rfl rfl (m12.ext _hx).h0 (Qx _ _ 0 sD)) <| Qj rfl rfl (fun _ _hx => Qb (v := (u32 (wl.getD (((k : Int) - 15 : Int).toNat) 0))) rfl) <| Kv (v := (u32 (Zb (wl.getD (((k : Int) - 15 : Int).toNat) 0) ((-7) : Int)))) rfl rfl (fun w13 _ew13 => Yz.mono (Pn (Xr rfl rfl) (Uh (wl.getD (((k : Int) - 15 : Int).toNat) 0) _ _)) (by rintro _ w14 ⟨rfl, rfl⟩; exact ⟨rfl, Ext.refl _⟩)) <| Qj rfl rfl (fun _ _hx => Qb (v := (u32 (wl.getD (((k : Int) - 15 : Int).toNat) 0))) rfl) <| Kv (v := (u32 (Zb (wl.getD (((k : Int) - 15 : Int).toNat) 0) ((-18) : Int)))) rfl rfl (fun w16 _ew16 => Yz.mono (Pn (Xr rfl rfl) (Uh (wl.getD (((k : Int) - 15 : Int).toNat) 0) _ _)) (by rintro _ w17 ⟨rfl, rfl⟩; exact ⟨rfl, Ext.refl _⟩)) <| Qj rfl rfl (fun _ _hx => Y0 rfl rfl) <| Qj rfl rfl (fun _ _hx => Qb (v := (u32 (wl.getD (((k : Int) - 15 : Int).toNat) 0))) rfl) <| Qj rfl rfl (fun _ _hx => V8 (b := 3) rfl rfl oM) <| Qj rfl rfl (fun _ _hx => Y0 rfl rfl) ?_
   refine Xd (fun w19 _ew19 => ?_)
   have m19 := m12.ext _ew19
   refine Qa rfl (Xp rfl rfl) <| Qa rfl (Qd (r := k) oM Vj Zh s2 rfl oM sD) <| Zw (Xn (f := u32) (a := ((wl.set k ((wl.getD (((k : Int) - 16 : Int).toNat) 0) + (wl.getD (((k : Int) - 7 : Int).toNat) 0))).getD k 0) + (((Zb (wl.getD (((k : Int) - 15 : Int).toNat) 0) ((-7) : Int)) ^^^ (Zb (wl.getD (((k : Int) - 15 : Int).toNat) 0) ((-18) : Int))) ^^^ ((wl.getD (((k : Int) - 15 : Int).toNat) 0) >>> 3))) Z5 Zh rfl rfl m19.h0 sD (.inl (Nat.zero_le _))) ?_
   rintro _ w20 uq20
   have m20 := m19.upd0 uq20
   refine rN <| Xq (dl 11) 11 (by kernel_rfl) <| Qj rfl rfl (fun _ _hx => Qb (v := (i64 (k : Int))) rfl) <| Qj rfl rfl (fun _ _hx => Qd (r := k) oM Vj Zh s2 rfl oM sD) <| Qj rfl rfl (fun _ _hx => Qn Xk rfl rfl (m20.ext _hx).h0 (Qx _ _ 0 sD)) <| Qj rfl rfl (fun _ _hx => Qb (v := (u32 (wl.getD (((k : Int) - 2 : Int).toNat) 0))) rfl) <| Kv (v := (u32 (Zb (wl.getD (((k : Int) - 2 : Int).toNat) 0) ((-17) : Int)))) rfl rfl (fun w21 _ew21 => Yz.mono (Pn (Xr rfl rfl) (Uh (wl.getD (((k : Int) - 2 : Int).toNat) 0) _ _)) (by rintro _ w22 ⟨rfl, rfl⟩; exact ⟨rfl, Ext.refl _⟩)) <| Qj rfl rfl (fun _ _hx => Qb (v := (u32 (wl.getD (((k : Int) - 2 : Int).toNat) 0))) rfl) <| Kv (v := (u32 (Zb (wl.getD (((k : Int) - 2 : Int).toNat) 0) ((-19) : Int)))) rfl rfl (fun w24 _ew24 => Yz.mono (Pn (Xr rfl rfl) (Uh (wl.getD (((k : Int) - 2 : Int).toNat) 0) _ _)) (by rintro _ w25 ⟨rfl, rfl⟩; exact ⟨rfl, Ext.refl _⟩)) <| Qj rfl rfl (fun _ _hx => Y0 rfl rfl) <| Qj rfl rfl (fun _ _hx => Qb (v := (u32 (wl.getD (((k : Int) - 2 : Int).toNat) 0))) rfl) <| Qj rfl rfl (fun _ _hx => V8 (b := 10) rfl rfl oM) ?_
   refine Qj rfl rfl (fun _ _hx => Y0 rfl rfl) ?_
   refine Xd (fun w27 _ew27 => ?_)
   have m27 := m20.ext _ew27
   refine Qa rfl (Xp rfl rfl) <| Qa rfl (Qd (r := k) oM Vj Zh s2 rfl oM sD) <| Zw (Xn (f := u32) (a := (((wl.set k ((wl.getD (((k : Int) - 16 : Int).toNat) 0) + (wl.getD (((k : Int) - 7 : Int).toNat) 0))).set k (((wl.set k ((wl.getD (((k : Int) - 16 : Int).toNat) 0) + (wl.getD (((k : Int) - 7 : Int).toNat) 0))).getD k 0) + (((Zb (wl.getD (((k : Int) - 15 : Int).toNat) 0) ((-7) : Int)) ^^^ (Zb (wl.getD (((k : Int) - 15 : Int).toNat) 0) ((-18) : Int))) ^^^ ((wl.getD (((k : Int) - 15 : Int).toNat) 0) >>> 3)))).getD k 0) + (((Zb (wl.getD (((k : Int) - 2 : Int).toNat) 0) ((-17) : Int)) ^^^ (Zb (wl.getD (((k : Int) - 2 : Int).toNat) 0) ((-19) : Int))) ^^^ ((wl.getD (((k : Int) - 2 : Int).toNat) 0) >>> 10))) Z5 Zh rfl rfl m27.h0 sD (.inl (Nat.zero_le _))) ?_
   rintro _ w28 uq28
   have m28 := m27.upd0 uq28
   refine Zr (Qi (Qe ?_))
   refine Qa rfl (Qk (b := 1) s8 rfl oM oM) <| Qa rfl (Qb (v := (i64 ((k : Int) + 1))) rfl) <| rN ?_
   have hwn : ((wl.set k ((wl.getD (((k : Int) - 16 : Int).toNat) 0) + (wl.getD (((k : Int) - 7 : Int).toNat) 0))).set k (((wl.set k ((wl.getD (((k : Int) - 16 : Int).toNat) 0) + (wl.getD (((k : Int) - 7 : Int).toNat) 0))).getD k 0) + (((Zb (wl.getD (((k : Int) - 15 : Int).toNat) 0) ((-7) : Int)) ^^^ (Zb (wl.getD (((k : Int) - 15 : Int).toNat) 0) ((-18) : Int))) ^^^ ((wl.getD (((k : Int) - 15 : Int).toNat) 0) >>> 3)))).set k ((((wl.set k ((wl.getD (((k : Int) - 16 : Int).toNat) 0) + (wl.getD (((k : Int) - 7 : Int).toNat) 0))).set k (((wl.set k ((wl.getD (((k : Int) - 16 : Int).toNat) 0) + (wl.getD (((k : Int) - 7 : Int).toNat) 0))).getD k 0) + (((Zb (wl.getD (((k : Int) - 15 : Int).toNat) 0) ((-7) : Int)) ^^^ (Zb (wl.getD (((k : Int) - 15 : Int).toNat) 0) ((-18) : Int))) ^^^ ((wl.getD (((k : Int) - 15 : Int).toNat) 0) >>> 3)))).getD k 0) + (((Zb (wl.getD (((k : Int) - 2 : Int).toNat) 0) ((-17) : Int)) ^^^ (Zb (wl.getD (((k : Int) - 2 : Int).toNat) 0) ((-19) : Int))) ^^^ ((wl.getD (((k : Int) - 2 : Int).toNat) 0) >>> 10))) = Jv l (k + 1) := by
    have e16 : ((k : Int) - 16).toNat = k - 16 := by omega
    have e7 : ((k : Int) - 7).toNat = k - 7 := by omega
    have e15 : ((k : Int) - 15).toNat = k - 15 := by omega
    have e2 : ((k : Int) - 2).toNat = k - 2 := by omega
    rw [e16, e7, e15, e2]
    exact Qk4 l k oM oM wl hw _ _ _ rfl rfl rfl
   exact ⟨⟨k + 1, ((wl.set k ((wl.getD (((k : Int) - 16 : Int).toNat) 0) + (wl.getD (((k : Int) - 7 : Int).toNat) 0))).set k (((wl.set k ((wl.getD (((k : Int) - 16 : Int).toNat) 0) + (wl.getD (((k : Int) - 7 : Int).toNat) 0))).getD k 0) + (((Zb (wl.getD (((k : Int) - 15 : Int).toNat) 0) ((-7) : Int)) ^^^ (Zb (wl.getD (((k : Int) - 15 : Int).toNat) 0) ((-18) : Int))) ^^^ ((wl.getD (((k : Int) - 15 : Int).toNat) 0) >>> 3)))).set k ((((wl.set k ((wl.getD (((k : Int) - 16 : Int).toNat) 0) + (wl.getD (((k : Int) - 7 : Int).toNat) 0))).set k (((wl.set k ((wl.getD (((k : Int) - 16 : Int).toNat) 0) + (wl.getD (((k : Int) - 7 : Int).toNat) 0))).getD k 0) + (((Zb (wl.getD (((k : Int) - 15 : Int).toNat) 0) ((-7) : Int)) ^^^ (Zb (wl.getD (((k : Int) - 15 : Int).toNat) 0) ((-18) : Int))) ^^^ ((wl.getD (((k : Int) - 15 : Int).toNat) 0) >>> 3)))).getD k 0) + (((Zb (wl.getD (((k : Int) - 2 : Int).toNat) 0) ((-17) : Int)) ^^^ (Zb (wl.getD (((k : Int) - 2 : Int).toNat) 0) ((-19) : Int))) ^^^ ((wl.getD (((k : Int) - 2 : Int).toNat) 0) >>> 10))), oM, hwn, s0, s2, rfl, m28⟩, Gl rfl z8 oM oM⟩
 ·
  have hc4p := of_decide_eq_false hc4
  obtain rfl : k = 64 := by omega
  have hwl : wl.length = 64 := by rw [hw, Nb]
  refine X0 ?_
  refine Qr (Qr (Xf ?_))
  refine sR <| Qa rfl (Qw Vj rfl Rt s2 m3.h0 sZ) <| Zw (Qm (f := u32) (l := wl) Z5 Rt s2 rfl sD m3.h0 sZ rfl) ?_
  rintro _ w29 uq29
  have m29 := m3.upd0 uq29
  refine rN (Xt ?_)
  refine Ze [(agg u32 wl)] ⟨⟨_, s2, Xo Vj rfl Rt m29.h0 sZ⟩, trivial⟩ ?_
  exact ⟨congrArg (agg u32) hw, m29.toExt⟩
theorem c_take (bd : Nat) (x0 x1 x2 x3 x4 x5 x6 x7 : BitVec 32) (v : Value) (n : BitVec 64) (vb : Value) (l : List (BitVec 8)) (w0 : World) (R : Rest) (m0 : Mem w0 R [(bd, .cells #[(u32 x0), (u32 x1), (u32 x2), (u32 x3), (u32 x4), (u32 x5), (u32 x6), (u32 x7), v, (u64 n)] 154 (0, 0))]) (hT : Tabs R.blk) (hr : Rd R.blk u8 vb l) (hl : l.length = 64) : Xz Tryd.prog 102 #[(ptr bd 0), vb] w0 (fun r w1 => ∃ y0 y1 y2 y3 y4 y5 y6 y7, [y0, y1, y2, y3, y4, y5, y6, y7] = Qed [x0, x1, x2, x3, x4, x5, x6, x7] l ∧ Mem w1 R [(bd, .cells #[(u32 y0), (u32 y1), (u32 y2), (u32 y3), (u32 y4), (u32 y5), (u32 y6), (u32 y7), v, (u64 n)] 154 (0, 0))]) := by
 refine Zd (args := [(ptr bd 0), vb]) Tryd.func102 rfl Tryd.ntmps102 Tryd.results102 rfl ?_
 obtain ⟨Es, fzs, hTs⟩ := hT.start
 obtain ⟨Er, fzr, hTr⟩ := hT.round
 refine Qg <| Xq (dl 47) 47 (by kernel_rfl) <| Qj rfl rfl (fun _ _hx => Qb (v := (ptr bd 0)) rfl) <| Qj rfl rfl (fun _ _hx => Xb rfl) <| Qj rfl rfl (fun _ _hx => Xi (r := 0) Kq rfl (by first | rfl | omega) V5 rfl rfl) <| Qj rfl rfl (fun _ _hx => Qd (r := 0) (i := 0) oM Yh Zh rfl rfl oM oM) <| Qj (v := (u32 x0)) rfl rfl (fun _ _hx => Qn Xk rfl rfl (m0.ext _hx).h0 rfl) <| Qj rfl rfl (fun _ _hx => Qb (v := (ptr bd 0)) rfl) <| Qj rfl rfl (fun _ _hx => Xb rfl) <| Qj rfl rfl (fun _ _hx => Xi (r := 0) Kq rfl (by first | rfl | omega) V5 rfl rfl) <| Qj rfl rfl (fun _ _hx => Qd (r := 1) (i := 1) oM Yh Zh rfl rfl oM oM) <| Qj (v := (u32 x1)) rfl rfl (fun _ _hx => Qn Xk rfl rfl (m0.ext _hx).h0 rfl) ?_
 refine Qj rfl rfl (fun _ _hx => Qb (v := (ptr bd 0)) rfl) <| Qj rfl rfl (fun _ _hx => Xb rfl) <| Qj rfl rfl (fun _ _hx => Xi (r := 0) Kq rfl (by first | rfl | omega) V5 rfl rfl) <| Qj rfl rfl (fun _ _hx => Qd (r := 2) (i := 2) oM Yh Zh rfl rfl oM oM) <| Qj (v := (u32 x2)) rfl rfl (fun _ _hx => Qn Xk rfl rfl (m0.ext _hx).h0 rfl) <| Qj rfl rfl (fun _ _hx => Qb (v := (ptr bd 0)) rfl) <| Qj rfl rfl (fun _ _hx => Xb rfl) <| Qj rfl rfl (fun _ _hx => Xi (r := 0) Kq rfl (by first | rfl | omega) V5 rfl rfl) <| Qj rfl rfl (fun _ _hx => Qd (r := 3) (i := 3) oM Yh Zh rfl rfl oM oM) <| Qj (v := (u32 x3)) rfl rfl (fun _ _hx => Qn Xk rfl rfl (m0.ext _hx).h0 rfl) <| Qj rfl rfl (fun _ _hx => Qb (v := (ptr bd 0)) rfl) <| Qj rfl rfl (fun _ _hx => Xb rfl) ?_
 refine Qj rfl rfl (fun _ _hx => Xi (r := 0) Kq rfl (by first | rfl | omega) V5 rfl rfl) <| Qj rfl rfl (fun _ _hx => Qd (r := 4) (i := 4) oM Yh Zh rfl rfl oM oM) <| Qj (v := (u32 x4)) rfl rfl (fun _ _hx => Qn Xk rfl rfl (m0.ext _hx).h0 rfl) <| Qj rfl rfl (fun _ _hx => Qb (v := (ptr bd 0)) rfl) <| Qj rfl rfl (fun _ _hx => Xb rfl) <| Qj rfl rfl (fun _ _hx => Xi (r := 0) Kq rfl (by first | rfl | omega) V5 rfl rfl) <| Qj rfl rfl (fun _ _hx => Qd (r := 5) (i := 5) oM Yh Zh rfl rfl oM oM) <| Qj (v := (u32 x5)) rfl rfl (fun _ _hx => Qn Xk rfl rfl (m0.ext _hx).h0 rfl) <| Qj rfl rfl (fun _ _hx => Qb (v := (ptr bd 0)) rfl) <| Qj rfl rfl (fun _ _hx => Xb rfl) <| Qj rfl rfl (fun _ _hx => Xi (r := 0) Kq rfl (by first | rfl | omega) V5 rfl rfl) <| Qj rfl rfl (fun _ _hx => Qd (r := 6) (i := 6) oM Yh Zh rfl rfl oM oM) ?_
 refine Qj (v := (u32 x6)) rfl rfl (fun _ _hx => Qn Xk rfl rfl (m0.ext _hx).h0 rfl) <| Qj rfl rfl (fun _ _hx => Qb (v := (ptr bd 0)) rfl) <| Qj rfl rfl (fun _ _hx => Xb rfl) <| Qj rfl rfl (fun _ _hx => Xi (r := 0) Kq rfl (by first | rfl | omega) V5 rfl rfl) <| Qj rfl rfl (fun _ _hx => Qd (r := 7) (i := 7) oM Yh Zh rfl rfl oM oM) <| Qj (v := (u32 x7)) rfl rfl (fun _ _hx => Qn Xk rfl rfl (m0.ext _hx).h0 rfl) <| Qj rfl rfl (fun _ _hx => Qc (v := (u32 x0)) rfl) <| Qj rfl rfl (fun _ _hx => Qc (v := (u32 x1)) rfl) <| Qj rfl rfl (fun _ _hx => Qc (v := (u32 x2)) rfl) <| Qj rfl rfl (fun _ _hx => Qc (v := (u32 x3)) rfl) <| Qj rfl rfl (fun _ _hx => Qc (v := (u32 x4)) rfl) <| Qj rfl rfl (fun _ _hx => Qc (v := (u32 x5)) rfl) ?_
 refine Qj rfl rfl (fun _ _hx => Qc (v := (u32 x6)) rfl) ?_
 refine Xd (fun w1 e1 => ?_)
 have m1 := m0.ext e1
 refine Qa rfl (Qc (v := (u32 x7)) rfl) ?_
 refine rN (Qg (sR ?_))
 refine rM rfl (v := vb) rfl <| Za rfl (oc111 (Jj rfl) (Ql7 vb l _ (Rd.ofRest hr m1) sD)) ?_
 rintro _ w2 ⟨rfl, e2⟩
 have m2 := m1.ext e2
 refine Qa rfl (Qb (v := (i64 0)) rfl) ?_
 refine rN (Qo ?_)
 refine Yo (fun g wv => ∃ (k : Nat) (sa sz sc se sf sg sh sk : BitVec 32), (k ≤ 64) ∧ ([sa, sz, sc, se, sf, sg, sh, sk] = Nh (Uz l) k [x0, x1, x2, x3, x4, x5, x6, x7]) ∧ g 0 = (ptr bd 0) ∧ g 1 = vb ∧ g 4 = (u32 sa) ∧ g 5 = (u32 sz) ∧ g 6 = (u32 sc) ∧ g 7 = (u32 se) ∧ g 8 = (u32 sf) ∧ g 9 = (u32 sg) ∧ g 10 = (u32 sh) ∧ g 11 = (u32 sk) ∧ g 59 = (agg u32 (Uz l)) ∧ g 60 = (i64 (k : Int)) ∧ Mem wv R [(bd, .cells #[(u32 x0), (u32 x1), (u32 x2), (u32 x3), (u32 x4), (u32 x5), (u32 x6), (u32 x7), v, (u64 n)] 154 (0, 0))]) (fun g wv => (64 - RowKit.intOf (g 60)).toNat) ?_ ?_
 ·exact ⟨0, x0, x1, x2, x3, x4, x5, x6, x7, oM, rfl, rfl, rfl, rfl, rfl, rfl, rfl, rfl, rfl, rfl, rfl, rfl, rfl, m2⟩
 rintro fr4 w5 ⟨k, sa, sz, sc, se, sf, sg, sh, sk, hk1, hs, s0, s1, s4, s5, s6, s7, s8, s9, s10, s11, s59, s60, m5⟩
 have z60 := s60
 have z4 := s4
 have z5 := s5
 have z6 := s6
 have z7 := s7
 have z8 := s8
 have z9 := s9
 have z10 := s10
 have z11 := s11
 refine sR <| Qa rfl (Qs (b := 64) s60 rfl) ?_
 refine rN (Qg ?_)
 refine Xv rfl (fun hc6 => ?_) (fun hc6 => ?_)
 ·
  have hc6p := of_decide_eq_true hc6
  refine Q7 (Qh (Qg (Qo (sR ?_))))
  refine rM rfl s60 <| Qa (v := (u32 ((Uz l).getD k 0))) rfl (Y4 Vj Xk rfl Zh s59 s60 oM sD (Qx _ _ 0 sD)) <| Qa rfl (Qc (v := (i64 (k : Int))) rfl) <| Qa rfl (Qc (v := (u32 ((Uz l).getD k 0))) rfl) ?_
  refine rN (sR ?_)
  refine rM rfl s11 <| Qa rfl (Qb (v := (u32 ((Uz l).getD k 0))) rfl) <| Qa rfl (Xp rfl rfl) <| Qa rfl (Qb (v := (i64 (k : Int))) rfl) <| Qa rfl (Qd (r := k) oM Vj Zh rfl rfl oM sD) <| Qa rfl (Qn Xk rfl rfl (m5.rest _ _ hTr) (Qx _ _ 0 sD)) <| Qa rfl (Xp rfl rfl) <| rM rfl s8 <| rM rfl s9 <| Qa rfl (Uo rfl rfl) <| rM rfl s8 <| Qa rfl (Qgd rfl) ?_
  refine rM rfl s10 <| Qa rfl (Uo rfl rfl) <| Qa rfl (Y0 rfl rfl) <| Qa rfl (Xp rfl rfl) <| rA rfl rfl ?_
  refine rN (sR ?_)
  refine rM rfl rfl <| rM rfl s8 <| Za rfl (Pn (Xr rfl rfl) (Uh sf _ _)) ?_
  rintro _ w7 ⟨rfl, rfl⟩
  refine rM rfl s8 <| Za rfl (Pn (Xr rfl rfl) (Uh sf _ _)) ?_
  rintro _ w9 ⟨rfl, rfl⟩
  refine Qa rfl (Y0 rfl rfl) <| rM rfl s8 <| Za rfl (Pn (Xr rfl rfl) (Uh sf _ _)) ?_
  rintro _ w11 ⟨rfl, rfl⟩
  refine Qa rfl (Y0 rfl rfl) <| Qa rfl (Xp rfl rfl) <| rA rfl rfl ?_
  refine rN (sR ?_)
  refine rM rfl s4 <| rM rfl s5 <| Qa rfl (Uo rfl rfl) <| rM rfl s4 <| rM rfl s6 <| Qa rfl (Uo rfl rfl) <| Qa rfl (Y0 rfl rfl) <| rM rfl s5 <| rM rfl s6 <| Qa rfl (Uo rfl rfl) <| Qa rfl (Y0 rfl rfl) <| Qa rfl (Qc (v := (u32 (((sa &&& sz) ^^^ (sa &&& sc)) ^^^ (sz &&& sc)))) rfl) ?_
  refine rN (sR ?_)
  refine Qa rfl (Qb (v := (u32 (((sa &&& sz) ^^^ (sa &&& sc)) ^^^ (sz &&& sc)))) rfl) <| rM rfl s4 <| Za rfl (Pn (Xr rfl rfl) (Uh sa _ _)) ?_
  rintro _ w13 ⟨rfl, rfl⟩
  refine rM rfl s4 <| Za rfl (Pn (Xr rfl rfl) (Uh sa _ _)) ?_
  rintro _ w15 ⟨rfl, rfl⟩
  refine Qa rfl (Y0 rfl rfl) <| rM rfl s4 <| Za rfl (Pn (Xr rfl rfl) (Uh sa _ _)) ?_
  rintro _ w17 ⟨rfl, rfl⟩
  refine Qa rfl (Y0 rfl rfl) <| Qa rfl (Xp rfl rfl) <| rA rfl rfl ?_
  refine rN (Qe ?_)
  refine rM rfl s10 <| rM rfl s9 <| rM rfl s8 <| rM rfl s7 <| rM rfl rfl <| Qa rfl (Xp rfl rfl) <| rM rfl s6 <| rM rfl s5 <| rM rfl s4 <| rM rfl rfl <| rM rfl rfl <| Qa rfl (Xp rfl rfl) ?_
  refine Qa rfl (Qc (v := (u32 sh)) rfl) <| Qa rfl (Qc (v := (u32 sg)) rfl) <| Qa rfl (Qc (v := (u32 sf)) rfl) <| rA rfl rfl <| Qa rfl (Qc (v := (u32 sc)) rfl) <| Qa rfl (Qc (v := (u32 sz)) rfl) <| Qa rfl (Qc (v := (u32 sa)) rfl) <| rA rfl rfl ?_
  refine Zr (Qi (Qe ?_))
  refine Qa rfl (Qk (b := 1) s60 rfl oM oM) <| Qa rfl (Qb (v := (i64 ((k : Int) + 1))) rfl) <| rN ?_
  have hsn : [((((sk + ((Uz l).getD k 0)) + (Ud.getD k 0)) + ((sf &&& sg) ^^^ ((~~~sf) &&& sh))) + (((Zb sf ((-6) : Int)) ^^^ (Zb sf ((-11) : Int))) ^^^ (Zb sf ((-25) : Int)))) + ((((sa &&& sz) ^^^ (sa &&& sc)) ^^^ (sz &&& sc)) + (((Zb sa ((-2) : Int)) ^^^ (Zb sa ((-13) : Int))) ^^^ (Zb sa ((-22) : Int)))), sa, sz, sc, se + ((((sk + ((Uz l).getD k 0)) + (Ud.getD k 0)) + ((sf &&& sg) ^^^ ((~~~sf) &&& sh))) + (((Zb sf ((-6) : Int)) ^^^ (Zb sf ((-11) : Int))) ^^^ (Zb sf ((-25) : Int)))), sf, sg, sh] = Nh (Uz l) (k + 1) [x0, x1, x2, x3, x4, x5, x6, x7] := by show _ = rnd _ _ (Nh (Uz l) k [x0, x1, x2, x3, x4, x5, x6, x7]); rw [← hs]; rfl
  exact ⟨⟨k + 1, (((((sk + ((Uz l).getD k 0)) + (Ud.getD k 0)) + ((sf &&& sg) ^^^ ((~~~sf) &&& sh))) + (((Zb sf ((-6) : Int)) ^^^ (Zb sf ((-11) : Int))) ^^^ (Zb sf ((-25) : Int)))) + ((((sa &&& sz) ^^^ (sa &&& sc)) ^^^ (sz &&& sc)) + (((Zb sa ((-2) : Int)) ^^^ (Zb sa ((-13) : Int))) ^^^ (Zb sa ((-22) : Int))))), sa, sz, sc, (se + ((((sk + ((Uz l).getD k 0)) + (Ud.getD k 0)) + ((sf &&& sg) ^^^ ((~~~sf) &&& sh))) + (((Zb sf ((-6) : Int)) ^^^ (Zb sf ((-11) : Int))) ^^^ (Zb sf ((-25) : Int))))), sf, sg, sh, oM, hsn, s0, s1, rfl, rfl, rfl, rfl, rfl, rfl, rfl, rfl, s59, rfl, m5⟩, Gl rfl z60 oM oM⟩
 ·
  have hc6p := of_decide_eq_false hc6
  obtain rfl : k = 64 := by omega
  refine X0 ?_
  refine Qr (Qr (Xf ?_))
  refine sR <| rM rfl s4 <| rM rfl s5 <| rM rfl s6 <| rM rfl s7 <| rM rfl s8 <| rM rfl s9 <| rM rfl s10 <| rM rfl s11 <| Qa rfl (Vf u32 [sa, sz, sc, se, sf, sg, sh, sk] Z5 V5 Yh Zh rfl rfl) <| Qa rfl (Qb (v := (i64 0)) rfl) ?_
  refine rN (Vq ?_)
  refine Kw 9 ?_
  refine Zq (sR ?_)
  refine Qa rfl (Qs (a := 0) (b := 8) rfl rfl) ?_
  refine rN (Qg ?_)
  refine Zc rfl (by decide) ?_
  refine Q7 (Qh (Qg (Qo (sR ?_))))
  refine Qa rfl (Qb (v := (i64 0)) rfl) <| Qa (v := (u32 sa)) rfl (Y4 (i := 0) Yh Xk rfl Zh rfl rfl oM sD (Qx _ _ 0 (by simp))) <| Qa rfl (Qc (v := (i64 0)) rfl) <| Qa rfl (Qc (v := (u32 sa)) rfl) <| rN <| Xq (dl 10) 10 (by kernel_rfl) <| dM rfl rfl s0 <| Qj rfl rfl (fun _ _hx => Qb (v := (i64 0)) rfl) <| Qj rfl rfl (fun _ _hx => Xb rfl) <| Qj rfl rfl (fun _ _hx => Xi (r := 0) Kq rfl (by first | rfl | omega) V5 rfl rfl) <| Qj rfl rfl (fun _ _hx => Qd (r := 0) (i := 0) oM Yh Zh rfl rfl oM oM) <| Qj (v := (u32 x0)) rfl rfl (fun _ _hx => Qn Xk rfl rfl (m5.ext _hx).h0 rfl) ?_
  refine Qj rfl rfl (fun _ _hx => Qb (v := (u32 sa)) rfl) <| Qj rfl rfl (fun _ _hx => Xp rfl rfl) <| Qj rfl rfl (fun _ _hx => Xb rfl) <| Qj rfl rfl (fun _ _hx => Xi (r := 0) Kq rfl (by first | rfl | omega) V5 rfl rfl) ?_
  refine Xd (fun w19 e19 => ?_)
  have m19 := m5.ext e19
  refine Qa rfl (Qd (r := 0) (i := 0) oM Yh Zh rfl rfl oM oM) <| Zw (Gq Zh rfl rfl (Z5 _) m19.h0 (by simp) (.inl (Nat.zero_le _))) ?_
  rintro _ w20 uq20
  have m20 : Mem _ _ [(bd, .cells #[(u32 (x0 + sa)), (u32 x1), (u32 x2), (u32 x3), (u32 x4), (u32 x5), (u32 x6), (u32 x7), v, (u64 n)] 154 (0, 0))] := m19.upd0 uq20
  refine Zr (Qi (Qe ?_))
  refine Qa (v := (i64 1)) rfl (Qk (a := 0) (b := 1) rfl rfl oM oM) <| Qa rfl (Qb (v := (i64 1)) rfl) ?_
  refine rN (Zq (sR ?_))
  refine Qa rfl (Qs (a := 1) (b := 8) rfl rfl) ?_
  refine rN (Qg ?_)
  refine Zc rfl (by decide) ?_
  refine Q7 (Qh (Qg (Qo (sR ?_))))
  refine Qa rfl (Qb (v := (i64 1)) rfl) <| Qa (v := (u32 sz)) rfl (Y4 (i := 1) Yh Xk rfl Zh rfl rfl oM sD (Qx _ _ 0 (by simp))) <| Qa rfl (Qc (v := (i64 1)) rfl) <| Qa rfl (Qc (v := (u32 sz)) rfl) <| rN <| Xq (dl 10) 10 (by kernel_rfl) <| dM rfl rfl s0 <| Qj rfl rfl (fun _ _hx => Qb (v := (i64 1)) rfl) <| Qj rfl rfl (fun _ _hx => Xb rfl) <| Qj rfl rfl (fun _ _hx => Xi (r := 0) Kq rfl (by first | rfl | omega) V5 rfl rfl) <| Qj rfl rfl (fun _ _hx => Qd (r := 1) (i := 1) oM Yh Zh rfl rfl oM oM) <| Qj (v := (u32 x1)) rfl rfl (fun _ _hx => Qn Xk rfl rfl (m20.ext _hx).h0 rfl) ?_
  refine Qj rfl rfl (fun _ _hx => Qb (v := (u32 sz)) rfl) <| Qj rfl rfl (fun _ _hx => Xp rfl rfl) <| Qj rfl rfl (fun _ _hx => Xb rfl) <| Qj rfl rfl (fun _ _hx => Xi (r := 0) Kq rfl (by first | rfl | omega) V5 rfl rfl) ?_
  refine Xd (fun w21 e21 => ?_)
  have m21 := m20.ext e21
  refine Qa rfl (Qd (r := 1) (i := 1) oM Yh Zh rfl rfl oM oM) <| Zw (Gq Zh rfl rfl (Z5 _) m21.h0 (by simp) (.inl (Nat.zero_le _))) ?_
  rintro _ w22 uq22
  have m22 : Mem _ _ [(bd, .cells #[(u32 (x0 + sa)), (u32 (x1 + sz)), (u32 x2), (u32 x3), (u32 x4), (u32 x5), (u32 x6), (u32 x7), v, (u64 n)] 154 (0, 0))] := m21.upd0 uq22
  refine Zr (Qi (Qe ?_))
  refine Qa (v := (i64 2)) rfl (Qk (a := 1) (b := 1) rfl rfl oM oM) <| Qa rfl (Qb (v := (i64 2)) rfl) ?_
  refine rN (Zq (sR ?_))
  refine Qa rfl (Qs (a := 2) (b := 8) rfl rfl) ?_
  refine rN (Qg ?_)
  refine Zc rfl (by decide) ?_
  refine Q7 (Qh (Qg (Qo (sR ?_))))
  refine Qa rfl (Qb (v := (i64 2)) rfl) <| Qa (v := (u32 sc)) rfl (Y4 (i := 2) Yh Xk rfl Zh rfl rfl oM sD (Qx _ _ 0 (by simp))) <| Qa rfl (Qc (v := (i64 2)) rfl) <| Qa rfl (Qc (v := (u32 sc)) rfl) <| rN <| Xq (dl 10) 10 (by kernel_rfl) <| dM rfl rfl s0 <| Qj rfl rfl (fun _ _hx => Qb (v := (i64 2)) rfl) <| Qj rfl rfl (fun _ _hx => Xb rfl) <| Qj rfl rfl (fun _ _hx => Xi (r := 0) Kq rfl (by first | rfl | omega) V5 rfl rfl) <| Qj rfl rfl (fun _ _hx => Qd (r := 2) (i := 2) oM Yh Zh rfl rfl oM oM) <| Qj (v := (u32 x2)) rfl rfl (fun _ _hx => Qn Xk rfl rfl (m22.ext _hx).h0 rfl) ?_
  refine Qj rfl rfl (fun _ _hx => Qb (v := (u32 sc)) rfl) <| Qj rfl rfl (fun _ _hx => Xp rfl rfl) <| Qj rfl rfl (fun _ _hx => Xb rfl) <| Qj rfl rfl (fun _ _hx => Xi (r := 0) Kq rfl (by first | rfl | omega) V5 rfl rfl) ?_
  refine Xd (fun w23 e23 => ?_)
  have m23 := m22.ext e23
  refine Qa rfl (Qd (r := 2) (i := 2) oM Yh Zh rfl rfl oM oM) <| Zw (Gq Zh rfl rfl (Z5 _) m23.h0 (by simp) (.inl (Nat.zero_le _))) ?_
  rintro _ w24 uq24
  have m24 : Mem _ _ [(bd, .cells #[(u32 (x0 + sa)), (u32 (x1 + sz)), (u32 (x2 + sc)), (u32 x3), (u32 x4), (u32 x5), (u32 x6), (u32 x7), v, (u64 n)] 154 (0, 0))] := m23.upd0 uq24
  refine Zr (Qi (Qe ?_))
  refine Qa (v := (i64 3)) rfl (Qk (a := 2) (b := 1) rfl rfl oM oM) <| Qa rfl (Qb (v := (i64 3)) rfl) ?_
  refine rN (Zq (sR ?_))
  refine Qa rfl (Qs (a := 3) (b := 8) rfl rfl) ?_
  refine rN (Qg ?_)
  refine Zc rfl (by decide) ?_
  refine Q7 (Qh (Qg (Qo (sR ?_))))
  refine Qa rfl (Qb (v := (i64 3)) rfl) <| Qa (v := (u32 se)) rfl (Y4 (i := 3) Yh Xk rfl Zh rfl rfl oM sD (Qx _ _ 0 (by simp))) <| Qa rfl (Qc (v := (i64 3)) rfl) <| Qa rfl (Qc (v := (u32 se)) rfl) <| rN <| Xq (dl 10) 10 (by kernel_rfl) <| dM rfl rfl s0 <| Qj rfl rfl (fun _ _hx => Qb (v := (i64 3)) rfl) <| Qj rfl rfl (fun _ _hx => Xb rfl) <| Qj rfl rfl (fun _ _hx => Xi (r := 0) Kq rfl (by first | rfl | omega) V5 rfl rfl) <| Qj rfl rfl (fun _ _hx => Qd (r := 3) (i := 3) oM Yh Zh rfl rfl oM oM) <| Qj (v := (u32 x3)) rfl rfl (fun _ _hx => Qn Xk rfl rfl (m24.ext _hx).h0 rfl) ?_
  refine Qj rfl rfl (fun _ _hx => Qb (v := (u32 se)) rfl) <| Qj rfl rfl (fun _ _hx => Xp rfl rfl) <| Qj rfl rfl (fun _ _hx => Xb rfl) <| Qj rfl rfl (fun _ _hx => Xi (r := 0) Kq rfl (by first | rfl | omega) V5 rfl rfl) ?_
  refine Xd (fun w25 e25 => ?_)
  have m25 := m24.ext e25
  refine Qa rfl (Qd (r := 3) (i := 3) oM Yh Zh rfl rfl oM oM) <| Zw (Gq Zh rfl rfl (Z5 _) m25.h0 (by simp) (.inl (Nat.zero_le _))) ?_
  rintro _ w26 uq26
  have m26 : Mem _ _ [(bd, .cells #[(u32 (x0 + sa)), (u32 (x1 + sz)), (u32 (x2 + sc)), (u32 (x3 + se)), (u32 x4), (u32 x5), (u32 x6), (u32 x7), v, (u64 n)] 154 (0, 0))] := m25.upd0 uq26
  refine Zr (Qi (Qe ?_))
  refine Qa (v := (i64 4)) rfl (Qk (a := 3) (b := 1) rfl rfl oM oM) <| Qa rfl (Qb (v := (i64 4)) rfl) <| rN ?_
  refine CR.abs (fun g => g 0 = (ptr bd 0) ∧ g 1 = vb ∧ g 4 = (u32 sa) ∧ g 5 = (u32 sz) ∧ g 6 = (u32 sc) ∧ g 7 = (u32 se) ∧ g 8 = (u32 sf) ∧ g 9 = (u32 sg) ∧ g 10 = (u32 sh) ∧ g 11 = (u32 sk) ∧ g 16 = (i64 3) ∧ g 17 = (u32 se) ∧ g 59 = (agg u32 (Uz l)) ∧ g 60 = (i64 (64 : Int)) ∧ g 61 = (bl (decide ((64 : Int) < 64))) ∧ g 132 = (agg u32 ([sa, sz, sc, se, sf, sg, sh, sk])) ∧ g 133 = (i64 4) ∧ g 134 = (bl true) ∧ True) ⟨s0, s1, s4, s5, s6, s7, s8, s9, s10, s11, rfl, rfl, s59, s60, rfl, rfl, rfl, rfl, trivial⟩ ?_
  rintro fr27 ⟨s0, s1, s4, s5, s6, s7, s8, s9, s10, s11, s16, s17, s59, s60, s61, s132, s133, s134, _⟩
  refine Zq (sR ?_)
  refine Qa rfl (Qs (a := 4) (b := 8) s133 rfl) ?_
  refine rN (Qg ?_)
  refine Zc rfl (by decide) ?_
  refine Q7 (Qh (Qg (Qo (sR ?_))))
  refine rM rfl s133 <| Qa (v := (u32 sf)) rfl (Y4 (i := 4) Yh Xk rfl Zh s132 s133 oM sD (Qx _ _ 0 (by simp))) <| Qa rfl (Qc (v := (i64 4)) rfl) <| Qa rfl (Qc (v := (u32 sf)) rfl) <| rN <| Xq (dl 10) 10 (by kernel_rfl) <| dM rfl rfl s0 <| Qj rfl rfl (fun _ _hx => Qb (v := (i64 4)) rfl) <| Qj rfl rfl (fun _ _hx => Xb rfl) <| Qj rfl rfl (fun _ _hx => Xi (r := 0) Kq rfl (by first | rfl | omega) V5 rfl rfl) <| Qj rfl rfl (fun _ _hx => Qd (r := 4) (i := 4) oM Yh Zh rfl rfl oM oM) <| Qj (v := (u32 x4)) rfl rfl (fun _ _hx => Qn Xk rfl rfl (m26.ext _hx).h0 rfl) ?_
  refine Qj rfl rfl (fun _ _hx => Qb (v := (u32 sf)) rfl) <| Qj rfl rfl (fun _ _hx => Xp rfl rfl) <| Qj rfl rfl (fun _ _hx => Xb rfl) <| Qj rfl rfl (fun _ _hx => Xi (r := 0) Kq rfl (by first | rfl | omega) V5 rfl rfl) ?_
  refine Xd (fun w28 e28 => ?_)
  have m28 := m26.ext e28
  refine Qa rfl (Qd (r := 4) (i := 4) oM Yh Zh rfl rfl oM oM) <| Zw (Gq Zh rfl rfl (Z5 _) m28.h0 (by simp) (.inl (Nat.zero_le _))) ?_
  rintro _ w29 uq29
  have m29 : Mem _ _ [(bd, .cells #[(u32 (x0 + sa)), (u32 (x1 + sz)), (u32 (x2 + sc)), (u32 (x3 + se)), (u32 (x4 + sf)), (u32 x5), (u32 x6), (u32 x7), v, (u64 n)] 154 (0, 0))] := m28.upd0 uq29
  refine Zr (Qi (Qe ?_))
  refine Qa (v := (i64 5)) rfl (Qk (a := 4) (b := 1) s133 rfl oM oM) <| Qa rfl (Qb (v := (i64 5)) rfl) ?_
  refine rN (Zq (sR ?_))
  refine Qa rfl (Qs (a := 5) (b := 8) rfl rfl) ?_
  refine rN (Qg ?_)
  refine Zc rfl (by decide) ?_
  refine Q7 (Qh (Qg (Qo (sR ?_))))
  refine Qa rfl (Qb (v := (i64 5)) rfl) <| Qa (v := (u32 sg)) rfl (Y4 (i := 5) Yh Xk rfl Zh s132 rfl oM sD (Qx _ _ 0 (by simp))) <| Qa rfl (Qc (v := (i64 5)) rfl) <| Qa rfl (Qc (v := (u32 sg)) rfl) <| rN <| Xq (dl 10) 10 (by kernel_rfl) <| dM rfl rfl s0 <| Qj rfl rfl (fun _ _hx => Qb (v := (i64 5)) rfl) <| Qj rfl rfl (fun _ _hx => Xb rfl) <| Qj rfl rfl (fun _ _hx => Xi (r := 0) Kq rfl (by first | rfl | omega) V5 rfl rfl) <| Qj rfl rfl (fun _ _hx => Qd (r := 5) (i := 5) oM Yh Zh rfl rfl oM oM) <| Qj (v := (u32 x5)) rfl rfl (fun _ _hx => Qn Xk rfl rfl (m29.ext _hx).h0 rfl) ?_
  refine Qj rfl rfl (fun _ _hx => Qb (v := (u32 sg)) rfl) <| Qj rfl rfl (fun _ _hx => Xp rfl rfl) <| Qj rfl rfl (fun _ _hx => Xb rfl) <| Qj rfl rfl (fun _ _hx => Xi (r := 0) Kq rfl (by first | rfl | omega) V5 rfl rfl) ?_
  refine Xd (fun w30 e30 => ?_)
  have m30 := m29.ext e30
  refine Qa rfl (Qd (r := 5) (i := 5) oM Yh Zh rfl rfl oM oM) <| Zw (Gq Zh rfl rfl (Z5 _) m30.h0 (by simp) (.inl (Nat.zero_le _))) ?_
  rintro _ w31 uq31
  have m31 : Mem _ _ [(bd, .cells #[(u32 (x0 + sa)), (u32 (x1 + sz)), (u32 (x2 + sc)), (u32 (x3 + se)), (u32 (x4 + sf)), (u32 (x5 + sg)), (u32 x6), (u32 x7), v, (u64 n)] 154 (0, 0))] := m30.upd0 uq31
  refine Zr (Qi (Qe ?_))
  refine Qa (v := (i64 6)) rfl (Qk (a := 5) (b := 1) rfl rfl oM oM) <| Qa rfl (Qb (v := (i64 6)) rfl) ?_
  refine rN (Zq (sR ?_))
  refine Qa rfl (Qs (a := 6) (b := 8) rfl rfl) ?_
  refine rN (Qg ?_)
  refine Zc rfl (by decide) ?_
  refine Q7 (Qh (Qg (Qo (sR ?_))))
  refine Qa rfl (Qb (v := (i64 6)) rfl) <| Qa (v := (u32 sh)) rfl (Y4 (i := 6) Yh Xk rfl Zh s132 rfl oM sD (Qx _ _ 0 (by simp))) <| Qa rfl (Qc (v := (i64 6)) rfl) <| Qa rfl (Qc (v := (u32 sh)) rfl) <| rN <| Xq (dl 10) 10 (by kernel_rfl) <| dM rfl rfl s0 <| Qj rfl rfl (fun _ _hx => Qb (v := (i64 6)) rfl) <| Qj rfl rfl (fun _ _hx => Xb rfl) <| Qj rfl rfl (fun _ _hx => Xi (r := 0) Kq rfl (by first | rfl | omega) V5 rfl rfl) <| Qj rfl rfl (fun _ _hx => Qd (r := 6) (i := 6) oM Yh Zh rfl rfl oM oM) <| Qj (v := (u32 x6)) rfl rfl (fun _ _hx => Qn Xk rfl rfl (m31.ext _hx).h0 rfl) ?_
  refine Qj rfl rfl (fun _ _hx => Qb (v := (u32 sh)) rfl) <| Qj rfl rfl (fun _ _hx => Xp rfl rfl) <| Qj rfl rfl (fun _ _hx => Xb rfl) <| Qj rfl rfl (fun _ _hx => Xi (r := 0) Kq rfl (by first | rfl | omega) V5 rfl rfl) ?_
  refine Xd (fun w32 e32 => ?_)
  have m32 := m31.ext e32
  refine Qa rfl (Qd (r := 6) (i := 6) oM Yh Zh rfl rfl oM oM) <| Zw (Gq Zh rfl rfl (Z5 _) m32.h0 (by simp) (.inl (Nat.zero_le _))) ?_
  rintro _ w33 uq33
  have m33 : Mem _ _ [(bd, .cells #[(u32 (x0 + sa)), (u32 (x1 + sz)), (u32 (x2 + sc)), (u32 (x3 + se)), (u32 (x4 + sf)), (u32 (x5 + sg)), (u32 (x6 + sh)), (u32 x7), v, (u64 n)] 154 (0, 0))] := m32.upd0 uq33
  refine Zr (Qi (Qe ?_))
  refine Qa (v := (i64 7)) rfl (Qk (a := 6) (b := 1) rfl rfl oM oM) <| Qa rfl (Qb (v := (i64 7)) rfl) ?_
  refine rN (Zq (sR ?_))
  refine Qa rfl (Qs (a := 7) (b := 8) rfl rfl) ?_
  refine rN (Qg ?_)
  refine Zc rfl (by decide) ?_
  refine Q7 (Qh (Qg (Qo (sR ?_))))
  refine Qa rfl (Qb (v := (i64 7)) rfl) <| Qa (v := (u32 sk)) rfl (Y4 (i := 7) Yh Xk rfl Zh s132 rfl oM sD (Qx _ _ 0 (by simp))) <| Qa rfl (Qc (v := (i64 7)) rfl) <| Qa rfl (Qc (v := (u32 sk)) rfl) <| rN <| Xq (dl 10) 10 (by kernel_rfl) <| dM rfl rfl s0 <| Qj rfl rfl (fun _ _hx => Qb (v := (i64 7)) rfl) <| Qj rfl rfl (fun _ _hx => Xb rfl) <| Qj rfl rfl (fun _ _hx => Xi (r := 0) Kq rfl (by first | rfl | omega) V5 rfl rfl) <| Qj rfl rfl (fun _ _hx => Qd (r := 7) (i := 7) oM Yh Zh rfl rfl oM oM) <| Qj (v := (u32 x7)) rfl rfl (fun _ _hx => Qn Xk rfl rfl (m33.ext _hx).h0 rfl) ?_
  refine Qj rfl rfl (fun _ _hx => Qb (v := (u32 sk)) rfl) <| Qj rfl rfl (fun _ _hx => Xp rfl rfl) <| Qj rfl rfl (fun _ _hx => Xb rfl) <| Qj rfl rfl (fun _ _hx => Xi (r := 0) Kq rfl (by first | rfl | omega) V5 rfl rfl) ?_
  refine Xd (fun w34 e34 => ?_)
  have m34 := m33.ext e34
  refine Qa rfl (Qd (r := 7) (i := 7) oM Yh Zh rfl rfl oM oM) <| Zw (Gq Zh rfl rfl (Z5 _) m34.h0 (by simp) (.inl (Nat.zero_le _))) ?_
  rintro _ w35 uq35
  have m35 : Mem _ _ [(bd, .cells #[(u32 (x0 + sa)), (u32 (x1 + sz)), (u32 (x2 + sc)), (u32 (x3 + se)), (u32 (x4 + sf)), (u32 (x5 + sg)), (u32 (x6 + sh)), (u32 (x7 + sk)), v, (u64 n)] 154 (0, 0))] := m34.upd0 uq35
  refine Zr (Qi (Qe ?_))
  refine Qa (v := (i64 8)) rfl (Qk (a := 7) (b := 1) rfl rfl oM oM) <| Qa rfl (Qb (v := (i64 8)) rfl) ?_
  refine rN (Zq (sR ?_))
  refine Qa rfl (Qs (a := 8) (b := 8) rfl rfl) ?_
  refine rN (Qg ?_)
  refine Yp rfl (by decide) <| X0 ?_
  refine Qr (Qr (Xf ?_))
  refine Au [] trivial ?_
  exact ⟨_, _, _, _, _, _, _, _, by rw [Qed, ← hs]; rfl, m35⟩
end Go.Proofs.YtkmiemlpfkfiiaaDoor
