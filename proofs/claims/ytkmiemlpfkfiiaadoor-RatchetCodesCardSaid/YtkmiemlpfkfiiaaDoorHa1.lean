/- Contracts: hash, first part. Conditions: none beyond those that each theorem states. -/
import Derived.Test.YtkmiemlpfkfiiaaDoorTab
import Derived.Test.YtkmiemlpfkfiiaaDoorFwM
import Derived.Test.YtkmiemlpfkfiiaaDoorSt6
namespace Go.Proofs.YtkmiemlpfkfiiaaDoor
set_option linter.unusedVariables false
set_option linter.unusedSimpArgs false
def Qeb : List (BitVec 32) := [1779033703#32, 3144134277#32, 1013904242#32, 2773480762#32, 1359893119#32, 2600822924#32, 528734635#32, 1541459225#32]
def F9 : List (BitVec 32) := [1116352408#32, 1899447441#32, 3049323471#32, 3921009573#32, 961987163#32, 1508970993#32, 2453635748#32, 2870763221#32, 3624381080#32, 310598401#32, 607225278#32, 1426881987#32, 1925078388#32, 2162078206#32, 2614888103#32, 3248222580#32, 3835390401#32, 4022224774#32, 264347078#32, 604807628#32, 770255983#32, 1249150122#32, 1555081692#32, 1996064986#32, 2554220882#32, 2821834349#32, 2952996808#32, 3210313671#32, 3336571891#32, 3584528711#32, 113926993#32, 338241895#32, 666307205#32, 773529912#32, 1294757372#32, 1396182291#32, 1695183700#32, 1986661051#32, 2177026350#32, 2456956037#32, 2730485921#32, 2820302411#32, 3259730800#32, 3345764771#32, 3516065817#32, 3600352804#32, 4094571909#32, 275423344#32, 430227734#32, 506948616#32, 659060556#32, 883997877#32, 958139571#32, 1322822218#32, 1537002063#32, 1747873779#32, 1955562222#32, 2024104815#32, 2227730452#32, 2361852424#32, 2428436474#32, 2756734187#32, 3204031479#32, 3329325298#32]
@[simp] theorem roundL_length : F9.length = 64 := rfl
structure Tabs (m : Nat → Option Obj) : Prop where
  start : ∃ E fz, m 0 = some (.cells (cl u32 [1779033703#32, 3144134277#32, 1013904242#32, 2773480762#32, 1359893119#32, 2600822924#32, 528734635#32, 1541459225#32]) E fz)
  round : ∃ E fz, m 1 = some (.cells (cl u32 F9) E fz)
theorem Tabs.mono {m m' : Nat → Option Obj} (h : Tabs m) (hm : ∀ b o, m b = some o → m' b = some o) : Tabs m' :=
  ⟨let ⟨E, fz, e⟩ := h.start; ⟨E, fz, hm _ _ e⟩, let ⟨E, fz, e⟩ := h.round; ⟨E, fz, hm _ _ e⟩⟩
def be4 (a b c d : BitVec 8) : BitVec 32 := (((0#32 <<< 8 ||| a.setWidth 32) <<< 8 ||| b.setWidth 32) <<< 8 ||| c.setWidth 32) <<< 8 ||| d.setWidth 32
def Qav (l : List (BitVec 8)) (w : List (BitVec 32)) (k : Nat) : BitVec 32 :=
  if k < 16 then be4 (l.getD (4 * k) 0) (l.getD (4 * k + 1) 0) (l.getD (4 * k + 2) 0) (l.getD (4 * k + 3) 0)
  else (w.getD (k - 16) 0 + w.getD (k - 7) 0) + ((Za (w.getD (k - 15) 0) (-7) ^^^ Za (w.getD (k - 15) 0) (-18)) ^^^ (w.getD (k - 15) 0) >>> 3)
    + ((Za (w.getD (k - 2) 0) (-17) ^^^ Za (w.getD (k - 2) 0) (-19)) ^^^ (w.getD (k - 2) 0) >>> 10)
def Vq (l : List (BitVec 8)) : Nat → List (BitVec 32)
  | 0 => List.replicate 64 0
  | k + 1 => (Vq l k).set k (Qav l (Vq l k) k)
@[simp] theorem Lp (l : List (BitVec 8)) (k : Nat) : (Vq l k).length = 64 := by
  induction k with
  | zero => simp [Vq]
  | succ k ih => simp [Vq, ih]
theorem Qdb (l : List (BitVec 8)) : ∀ (k j : Nat), k ≤ j → (Vq l k).getD j 0 = 0 := by
  intro k
  induction k with
  | zero =>
    intro j _
    simp only [Vq, List.getD_eq_getElem?_getD, List.getElem?_replicate]
    split <;> rfl
  | succ k ih =>
    intro j h
    have := ih j oM
    simp only [Vq, List.getD_eq_getElem?_getD, List.getElem?_set] at this ⊢
    rw [if_neg oM]; exact this
theorem U1 {α : Type} (l : List α) (k : Nat) (a z : α) (h : k < l.length) : (l.set k a).getD k z = a := by simp [List.getD_eq_getElem?_getD, h]
theorem Qe5 (l : List (BitVec 8)) (k : Nat) (h : k < 16) (a b c d : BitVec 8) (ha : a = l.getD (4 * k) 0) (hb : b = l.getD (4 * k + 1) 0) (hc : c = l.getD (4 * k + 2) 0) (hd : d = l.getD (4 * k + 3) 0) (w : List (BitVec 32)) (hw : w = Vq l k) :
    (((w.set k (w.getD k 0 <<< 8 ||| a.setWidth 32)).set k ((w.set k (w.getD k 0 <<< 8 ||| a.setWidth 32)).getD k 0 <<< 8 ||| b.setWidth 32)).set k
      (((w.set k (w.getD k 0 <<< 8 ||| a.setWidth 32)).set k ((w.set k (w.getD k 0 <<< 8 ||| a.setWidth 32)).getD k 0 <<< 8 ||| b.setWidth 32)).getD k 0 <<< 8 ||| c.setWidth 32)).set k
      ((((w.set k (w.getD k 0 <<< 8 ||| a.setWidth 32)).set k ((w.set k (w.getD k 0 <<< 8 ||| a.setWidth 32)).getD k 0 <<< 8 ||| b.setWidth 32)).set k
      (((w.set k (w.getD k 0 <<< 8 ||| a.setWidth 32)).set k ((w.set k (w.getD k 0 <<< 8 ||| a.setWidth 32)).getD k 0 <<< 8 ||| b.setWidth 32)).getD k 0 <<< 8 ||| c.setWidth 32)).getD k 0 <<< 8 ||| d.setWidth 32) = Vq l (k + 1) := by
  subst hw ha hb hc hd
  simp only [Vq, List.set_set]
  rw [U1 _ _ _ _ (by simp; omega), U1 _ _ _ _ (by simp; omega), U1 _ _ _ _ (by simp; omega), Qdb l k k (Nat.le_refl _)]
  unfold Qav
  rw [if_pos h]; rfl
theorem Qfx (l : List (BitVec 8)) (k : Nat) (h : ¬ k < 16) (h2 : k < 64) (w : List (BitVec 32)) (hw : w = Vq l k) (A B C : BitVec 32)
    (hA : A = w.getD (k - 16) 0 + w.getD (k - 7) 0) (hB : B = (Za (w.getD (k - 15) 0) (-7) ^^^ Za (w.getD (k - 15) 0) (-18)) ^^^ (w.getD (k - 15) 0) >>> 3)
    (hC : C = (Za (w.getD (k - 2) 0) (-17) ^^^ Za (w.getD (k - 2) 0) (-19)) ^^^ (w.getD (k - 2) 0) >>> 10) :
    ((w.set k A).set k ((w.set k A).getD k 0 + B)).set k (((w.set k A).set k ((w.set k A).getD k 0 + B)).getD k 0 + C) = Vq l (k + 1) := by
  subst hw hA hB hC
  simp only [Vq, List.set_set]
  rw [U1 _ _ _ _ (by simp; omega), U1 _ _ _ _ (by simp; omega)]
  unfold Qav
  rw [if_neg h]
theorem Dl (l : List (BitVec 8)) (k : Nat) (h : 4 * k + 4 ≤ l.length) : (l.drop (4 * (k : Int)).toNat).take ((4 * (k : Int) + 4).toNat - (4 * (k : Int)).toNat) = [l.getD (4 * k) 0, l.getD (4 * k + 1) 0, l.getD (4 * k + 2) 0, l.getD (4 * k + 3) 0] := by
  have e1 : (4 * (k : Int)).toNat = 4 * k := by omega
  have e2 : (4 * (k : Int) + 4).toNat - (4 * (k : Int)).toNat = 4 := by omega
  rw [e2, e1]
  refine List.ext_getElem (by simp; omega) fun i h1 h2 => ?_
  simp only [List.length_cons, List.length_nil] at h2
  have : i = 0 ∨ i = 1 ∨ i = 2 ∨ i = 3 := by omega
  rcases this with rfl | rfl | rfl | rfl <;> simp [List.getD_eq_getElem?_getD] <;> rw [List.getElem?_eq_getElem oM] <;> rfl
def Jy (l : List (BitVec 8)) : List (BitVec 32) := Vq l 64
@[simp] theorem schedP_length (l : List (BitVec 8)) : (Jy l).length = 64 := Lp l 64
def rnd (w t : BitVec 32) : List (BitVec 32) → List (BitVec 32)
  | [a, z, c, e, f, g, h, k] =>
    let t1 := (((k + w) + t) + ((f &&& g) ^^^ (~~~f &&& h))) + ((Za f (-6) ^^^ Za f (-11)) ^^^ Za f (-25))
    let u := (((a &&& z) ^^^ (a &&& c)) ^^^ (z &&& c)) + ((Za a (-2) ^^^ Za a (-13)) ^^^ Za a (-22))
    [t1 + u, a, z, c, e + t1, f, g, h]
  | l => l
def Qay (wl : List (BitVec 32)) : Nat → List (BitVec 32) → List (BitVec 32)
  | 0, s => s
  | k + 1, s => rnd (wl.getD k 0) (F9.getD k 0) (Qay wl k s)
def Qdl (h : List (BitVec 32)) (l : List (BitVec 8)) : List (BitVec 32) := List.zipWith (· + ·) h (Qay (Jy l) 64 h)
theorem c_hnew  (w0 : World)  (hT : Tabs (Y3 w0)) : X8 Tryd.prog 84 #[] w0 (fun r w1 => ∃ b, r = ptr b 0 ∧ Mem w1 (Qo w0) [(b, .cells #[(u32 1779033703#32), (u32 3144134277#32), (u32 1013904242#32), (u32 2773480762#32), (u32 1359893119#32), (u32 2600822924#32), (u32 528734635#32), (u32 1541459225#32), (Value.slice none 0 0), (u64 0#64)] 154 (0, 0))]) := by
 refine Zp (args := []) Tryd.func84 rfl Tryd.ntmps84 Tryd.results84 rfl ?_
 have hm0 : Mem w0 (Qo w0) [] := Mem.of_world w0
 obtain ⟨Es, fzs, hTs⟩ := hT.start
 obtain ⟨Er, fzr, hTr⟩ := hT.round
 refine sR <| Qb rfl (Qd (v := (Value.pointer none)) rfl) ?_
 refine rN (sR ?_)
 refine Qb (v := (agg u32 ([1779033703#32, 3144134277#32, 1013904242#32, 2773480762#32, 1359893119#32, 2600822924#32, 528734635#32, 1541459225#32]))) rfl (Z9 Wu rfl Vw rfl (hm0.rest _ _ hTs) sZ) <| Qb rfl (Jh (c := #[(u32 1779033703#32), (u32 3144134277#32), (u32 1013904242#32), (u32 2773480762#32), (u32 1359893119#32), (u32 2600822924#32), (u32 528734635#32), (u32 1541459225#32), (Value.slice none 0 0), (u64 0)]) (pl := [(0, 8), (8, 1), (9, 1)]) Qch Jk (by kernel_rfl) (Yh (i := 0) (v := (agg u32 ([1779033703#32, 3144134277#32, 1013904242#32, 2773480762#32, 1359893119#32, 2600822924#32, 528734635#32, 1541459225#32]))) (cs := (cl u32 ([1779033703#32, 3144134277#32, 1013904242#32, 2773480762#32, 1359893119#32, 2600822924#32, 528734635#32, 1541459225#32]))) rfl rfl Wy) (by kernel_rfl)) <| Zo rfl (V6 (cs := #[(u32 1779033703#32), (u32 3144134277#32), (u32 1013904242#32), (u32 2773480762#32), (u32 1359893119#32), (u32 2600822924#32), (u32 528734635#32), (u32 1541459225#32), (Value.slice none 0 0), (u64 0)]) hm0 rfl) ?_
 rintro _ w1 ⟨b3, rfl, _ew1, hm1⟩
 refine Qb rfl (Qd (v := (ptr b3 0)) rfl) ?_
 refine rN (Xn ?_)
 refine Zj [(ptr b3 0)] ⟨rfl, trivial⟩ ?_
 exact ⟨b3, rfl, hm1⟩
theorem Qgn (vb : Value) (l : List (BitVec 8)) (w0 : World)  (hr : Rd (Y3 w0) u8 vb l) (hl : l.length = 64) : X8 Tryd.prog 111 #[vb] w0 (fun r w1 => r = (agg u32 (Jy l)) ∧ Ext w0 w1) := by
 refine Zp (args := [vb]) Tryd.func111 rfl Tryd.ntmps111 Tryd.results111 rfl ?_
 have hm0 : Mem w0 (Qo w0) [] := Mem.of_world w0
 refine sR <| Zo rfl (Zy hm0 ti160) ?_
 rintro _ w1 ⟨b2, rfl, _ew1, hm1⟩
 refine rN (Qh (sR ?_))
 refine Qb rfl (Qc (v := (i64 0)) rfl) ?_
 refine rN (Qv ?_)
 refine Jg (fun g wv => ∃ (k : Nat) (wl : List (BitVec 32)), (k ≤ 64) ∧ (wl = Vq l k) ∧ g 0 = vb ∧ g 2 = (ptr b2 0) ∧ g 8 = (i64 (k : Int)) ∧ Mem wv (Qo w0) [(b2, .cells (cl u32 wl) 160 (0, 0))]) (fun g wv => (64 - RowKit.intOf (g 8)).toNat) ?_ ?_
 · exact ⟨0, _, oM, rfl, rfl, rfl, rfl, hm1⟩
 · rintro fr2 w3 ⟨k, wl, hk1, hw, s0, s2, s8, hm3⟩
   have z8 := s8
   have hwl : wl.length = 64 := by rw [hw]; simp
   refine sR <| Qb rfl (Qs (b := 64) s8 rfl) ?_
   refine rN (Qh ?_)
   refine Xy rfl (fun hc4 => ?_) (fun hc4 => ?_)
   ·
     have hc4p := of_decide_eq_true hc4
     refine Zc (Qi (Qh (Qv (sR ?_))))
     refine rM rfl s8 <| Qb rfl (Qd (v := (i64 (k : Int))) rfl) ?_
     refine rN (Qh (sR ?_))
     refine Qb rfl (Qc (v := (i64 (k : Int))) rfl) <| Qb rfl (Qs (b := 16) rfl rfl) <| rN ?_
     refine Xy rfl (fun hc5 => ?_) (fun hc5 => ?_)
     ·
       have hc5p := of_decide_eq_true hc5
       refine Qh (sR ?_)
       refine rM rfl s0 <| Qb rfl (Qc (v := (i64 (k : Int))) rfl) <| Qb rfl (Xj (a := 4) rfl rfl oM oM) <| Qb rfl (Qc (v := (i64 (k : Int))) rfl) <| Qb rfl (Xj (a := 4) rfl rfl oM oM) <| Qb rfl (Qk (b := 4) rfl rfl oM oM) <| Qb rfl (Yr (i := 4 * (k : Int)) (j := 4 * (k : Int) + 4) (Rd.ofRest hr hm3) Z4 Yq rfl (X9 (k := .i64) (i := 4 * (k : Int)) rfl) (X9 (k := .i64) (i := 4 * (k : Int) + 4) rfl) oM oM oM) <| Qb (v := (i64 4)) rfl (Yi (l := [l.getD (4 * k) 0, l.getD (4 * k + 1) 0, l.getD (4 * k + 2) 0, l.getD (4 * k + 3) 0]) (Rd.cast (Rd.sub (Rd.ofRest hr hm3) oM oM oM) (Dl l k oM)) Z4 rfl) <| Qb rfl (Qc (v := (i64 0)) rfl) <| rN ?_
       refine CW.abs (fun g => g 0 = vb ∧ g 2 = (ptr b2 0) ∧ g 3 = (i64 (k : Int)) ∧ g 8 = (i64 (k : Int)) ∧ g 9 = (bl (decide ((k : Int) < 64))) ∧ g 12 = (bl (decide ((k : Int) < 16))) ∧ g 19 = (V8 vb (4 * (k : Int)) (4 * (k : Int) + 4)) ∧ g 20 = (i64 4) ∧ g 21 = (i64 0) ∧ True) ⟨s0, s2, rfl, s8, rfl, rfl, rfl, rfl, rfl, trivial⟩ ?_
       rintro fr6 ⟨s0, s2, s3, s8, s9, s12, s19, s20, s21, _⟩
       refine Qv <| Jw 5 ?_
       refine Zu (sR ?_)
       refine Qb rfl (Qs (a := 0) (b := 4) s21 s20) ?_
       refine rN (Qh ?_)
       refine Zf rfl (by decide) ?_
       refine Zc (Qi (Qh (Qv (sR ?_))))
       refine Qb rfl (Xi (i := 0) (Rd.cast (Rd.sub (Rd.ofRest hr hm3) oM oM oM) (Dl l k oM)) Z4 Yq s19 s21 oM (by simp)) <| Qb (v := (u8 (l.getD (4 * k) 0))) rfl (Yg (l := [l.getD (4 * k) 0, l.getD (4 * k + 1) 0, l.getD (4 * k + 2) 0, l.getD (4 * k + 3) 0]) (i := 0) (dflt := 0) (Rd.cast (Rd.sub (Rd.ofRest hr hm3) oM oM oM) (Dl l k oM)) Vh rfl oM (by simp) rfl) <| Qb rfl (Qd (v := (u8 (l.getD (4 * k) 0))) rfl) ?_
       refine rN (Qg ?_)
       refine rM rfl s3 <| rM rfl s3 <| Qb rfl (Qm (r := k) oM Ux Xb s2 rfl oM sD) <| Qb (v := (u32 (wl.getD k 0))) rfl (Qy Yx rfl rfl hm3.h0 (Zm _ _ 0 sD)) <| Qb rfl (Gt (b := 8) rfl rfl oM) <| Qb rfl (Qc (v := (u8 (l.getD (4 * k) 0))) rfl) <| Qb rfl (Ve ⟨_, Vh⟩ Yx rfl) <| Qb rfl (Um rfl rfl) <| Qb rfl (Qm (r := k) oM Ux Xb s2 rfl oM sD) <| Xf (Yj (f := u32) (a := ((wl.getD k 0) <<< 8) ||| ((l.getD (4 * k) 0).setWidth 32)) Xq Xb rfl rfl hm3.h0 sD (.inl (Nat.zero_le _))) ?_
       rintro _ w7 uq7
       have hm7 := hm3.upd0 uq7
       refine Zz (Qn ?_)
       refine CW.abs (fun g => g 0 = vb ∧ g 2 = (ptr b2 0) ∧ g 3 = (i64 (k : Int)) ∧ g 5 = (u8 (l.getD (4 * k) 0)) ∧ g 8 = (i64 (k : Int)) ∧ g 9 = (bl (decide ((k : Int) < 64))) ∧ g 12 = (bl (decide ((k : Int) < 16))) ∧ g 19 = (V8 vb (4 * (k : Int)) (4 * (k : Int) + 4)) ∧ g 20 = (i64 4) ∧ g 21 = (i64 0) ∧ g 22 = (bl true) ∧ True) ⟨s0, s2, s3, rfl, s8, s9, s12, s19, s20, s21, rfl, trivial⟩ ?_
       rintro fr8 ⟨s0, s2, s3, s5, s8, s9, s12, s19, s20, s21, s22, _⟩
       refine Qg <| Qb (v := (i64 1)) rfl (Qk (a := 0) (b := 1) s21 rfl oM oM) <| Qb rfl (Qc (v := (i64 1)) rfl) ?_
       refine rN (Zu (sR ?_))
       refine Qb rfl (Qs (a := 1) (b := 4) rfl s20) ?_
       refine rN (Qh ?_)
       refine Zf rfl (by decide) ?_
       refine Zc (Qi (Qh (Qv (sR ?_))))
       refine Qb rfl (Xi (i := 1) (Rd.cast (Rd.sub (Rd.ofRest hr hm7) oM oM oM) (Dl l k oM)) Z4 Yq s19 rfl oM (by simp)) <| Qb (v := (u8 (l.getD (4 * k + 1) 0))) rfl (Yg (l := [l.getD (4 * k) 0, l.getD (4 * k + 1) 0, l.getD (4 * k + 2) 0, l.getD (4 * k + 3) 0]) (i := 1) (dflt := 0) (Rd.cast (Rd.sub (Rd.ofRest hr hm7) oM oM oM) (Dl l k oM)) Vh rfl oM (by simp) rfl) <| Qb rfl (Qd (v := (u8 (l.getD (4 * k + 1) 0))) rfl) ?_
       refine rN (Qg ?_)
       refine rM rfl s3 <| rM rfl s3 <| Qb rfl (Qm (r := k) oM Ux Xb s2 rfl oM sD) <| Qb (v := (u32 ((wl.set k (((wl.getD k 0) <<< 8) ||| ((l.getD (4 * k) 0).setWidth 32))).getD k 0))) rfl (Qy Yx rfl rfl hm7.h0 (Zm _ _ 0 sD)) <| Qb rfl (Gt (b := 8) rfl rfl oM) <| Qb rfl (Qc (v := (u8 (l.getD (4 * k + 1) 0))) rfl) <| Qb rfl (Ve ⟨_, Vh⟩ Yx rfl) <| Qb rfl (Um rfl rfl) <| Qb rfl (Qm (r := k) oM Ux Xb s2 rfl oM sD) <| Xf (Yj (f := u32) (a := (((wl.set k (((wl.getD k 0) <<< 8) ||| ((l.getD (4 * k) 0).setWidth 32))).getD k 0) <<< 8) ||| ((l.getD (4 * k + 1) 0).setWidth 32)) Xq Xb rfl rfl hm7.h0 sD (.inl (Nat.zero_le _))) ?_
       rintro _ w9 uq9
       have hm9 := hm7.upd0 uq9
       refine Zz (Qn ?_)
       refine CW.abs (fun g => g 0 = vb ∧ g 2 = (ptr b2 0) ∧ g 3 = (i64 (k : Int)) ∧ g 5 = (u8 (l.getD (4 * k + 1) 0)) ∧ g 8 = (i64 (k : Int)) ∧ g 9 = (bl (decide ((k : Int) < 64))) ∧ g 12 = (bl (decide ((k : Int) < 16))) ∧ g 19 = (V8 vb (4 * (k : Int)) (4 * (k : Int) + 4)) ∧ g 20 = (i64 4) ∧ g 21 = (i64 1) ∧ g 22 = (bl true) ∧ True) ⟨s0, s2, s3, rfl, s8, s9, s12, s19, s20, rfl, rfl, trivial⟩ ?_
       rintro fr10 ⟨s0, s2, s3, s5, s8, s9, s12, s19, s20, s21, s22, _⟩
       refine Qg <| Qb (v := (i64 2)) rfl (Qk (a := 1) (b := 1) s21 rfl oM oM) <| Qb rfl (Qc (v := (i64 2)) rfl) ?_
       refine rN (Zu (sR ?_))
       refine Qb rfl (Qs (a := 2) (b := 4) rfl s20) ?_
       refine rN (Qh ?_)
       refine Zf rfl (by decide) ?_
       refine Zc (Qi (Qh (Qv (sR ?_))))
       refine Qb rfl (Xi (i := 2) (Rd.cast (Rd.sub (Rd.ofRest hr hm9) oM oM oM) (Dl l k oM)) Z4 Yq s19 rfl oM (by simp)) <| Qb (v := (u8 (l.getD (4 * k + 2) 0))) rfl (Yg (l := [l.getD (4 * k) 0, l.getD (4 * k + 1) 0, l.getD (4 * k + 2) 0, l.getD (4 * k + 3) 0]) (i := 2) (dflt := 0) (Rd.cast (Rd.sub (Rd.ofRest hr hm9) oM oM oM) (Dl l k oM)) Vh rfl oM (by simp) rfl) <| Qb rfl (Qd (v := (u8 (l.getD (4 * k + 2) 0))) rfl) ?_
       refine rN (Qg ?_)
       refine rM rfl s3 <| rM rfl s3 <| Qb rfl (Qm (r := k) oM Ux Xb s2 rfl oM sD) <| Qb (v := (u32 (((wl.set k (((wl.getD k 0) <<< 8) ||| ((l.getD (4 * k) 0).setWidth 32))).set k ((((wl.set k (((wl.getD k 0) <<< 8) ||| ((l.getD (4 * k) 0).setWidth 32))).getD k 0) <<< 8) ||| ((l.getD (4 * k + 1) 0).setWidth 32))).getD k 0))) rfl (Qy Yx rfl rfl hm9.h0 (Zm _ _ 0 sD)) <| Qb rfl (Gt (b := 8) rfl rfl oM) <| Qb rfl (Qc (v := (u8 (l.getD (4 * k + 2) 0))) rfl) <| Qb rfl (Ve ⟨_, Vh⟩ Yx rfl) <| Qb rfl (Um rfl rfl) <| Qb rfl (Qm (r := k) oM Ux Xb s2 rfl oM sD) <| Xf (Yj (f := u32) (a := ((((wl.set k (((wl.getD k 0) <<< 8) ||| ((l.getD (4 * k) 0).setWidth 32))).set k ((((wl.set k (((wl.getD k 0) <<< 8) ||| ((l.getD (4 * k) 0).setWidth 32))).getD k 0) <<< 8) ||| ((l.getD (4 * k + 1) 0).setWidth 32))).getD k 0) <<< 8) ||| ((l.getD (4 * k + 2) 0).setWidth 32)) Xq Xb rfl rfl hm9.h0 sD (.inl (Nat.zero_le _))) ?_
       rintro _ w11 uq11
       have hm11 := hm9.upd0 uq11
       refine Zz (Qn ?_)
       refine CW.abs (fun g => g 0 = vb ∧ g 2 = (ptr b2 0) ∧ g 3 = (i64 (k : Int)) ∧ g 5 = (u8 (l.getD (4 * k + 2) 0)) ∧ g 8 = (i64 (k : Int)) ∧ g 9 = (bl (decide ((k : Int) < 64))) ∧ g 12 = (bl (decide ((k : Int) < 16))) ∧ g 19 = (V8 vb (4 * (k : Int)) (4 * (k : Int) + 4)) ∧ g 20 = (i64 4) ∧ g 21 = (i64 2) ∧ g 22 = (bl true) ∧ True) ⟨s0, s2, s3, rfl, s8, s9, s12, s19, s20, rfl, rfl, trivial⟩ ?_
       rintro fr12 ⟨s0, s2, s3, s5, s8, s9, s12, s19, s20, s21, s22, _⟩
       refine Qg <| Qb (v := (i64 3)) rfl (Qk (a := 2) (b := 1) s21 rfl oM oM) <| Qb rfl (Qc (v := (i64 3)) rfl) ?_
       refine rN (Zu (sR ?_))
       refine Qb rfl (Qs (a := 3) (b := 4) rfl s20) ?_
       refine rN (Qh ?_)
       refine Zf rfl (by decide) ?_
       refine Zc (Qi (Qh (Qv (sR ?_))))
       refine Qb rfl (Xi (i := 3) (Rd.cast (Rd.sub (Rd.ofRest hr hm11) oM oM oM) (Dl l k oM)) Z4 Yq s19 rfl oM (by simp)) <| Qb (v := (u8 (l.getD (4 * k + 3) 0))) rfl (Yg (l := [l.getD (4 * k) 0, l.getD (4 * k + 1) 0, l.getD (4 * k + 2) 0, l.getD (4 * k + 3) 0]) (i := 3) (dflt := 0) (Rd.cast (Rd.sub (Rd.ofRest hr hm11) oM oM oM) (Dl l k oM)) Vh rfl oM (by simp) rfl) <| Qb rfl (Qd (v := (u8 (l.getD (4 * k + 3) 0))) rfl) ?_
       refine rN (Qg ?_)
       refine rM rfl s3 <| rM rfl s3 <| Qb rfl (Qm (r := k) oM Ux Xb s2 rfl oM sD) <| Qb rfl (Qy Yx rfl rfl hm11.h0 (Zm _ _ 0 sD)) <| Qb rfl (Gt (b := 8) rfl rfl oM) <| Qb rfl (Qc (v := (u8 (l.getD (4 * k + 3) 0))) rfl) <| Qb rfl (Ve ⟨_, Vh⟩ Yx rfl) <| Qb rfl (Um rfl rfl) <| Qb rfl (Qm (r := k) oM Ux Xb s2 rfl oM sD) <| Xf (Yj (f := u32) (a := (((((wl.set k (((wl.getD k 0) <<< 8) ||| ((l.getD (4 * k) 0).setWidth 32))).set k ((((wl.set k (((wl.getD k 0) <<< 8) ||| ((l.getD (4 * k) 0).setWidth 32))).getD k 0) <<< 8) ||| ((l.getD (4 * k + 1) 0).setWidth 32))).set k (((((wl.set k (((wl.getD k 0) <<< 8) ||| ((l.getD (4 * k) 0).setWidth 32))).set k ((((wl.set k (((wl.getD k 0) <<< 8) ||| ((l.getD (4 * k) 0).setWidth 32))).getD k 0) <<< 8) ||| ((l.getD (4 * k + 1) 0).setWidth 32))).getD k 0) <<< 8) ||| ((l.getD (4 * k + 2) 0).setWidth 32))).getD k 0) <<< 8) ||| ((l.getD (4 * k + 3) 0).setWidth 32)) Xq Xb rfl rfl hm11.h0 sD (.inl (Nat.zero_le _))) ?_
       rintro _ w13 uq13
       have hm13 := hm11.upd0 uq13
       refine Zz (Qn ?_)
       refine CW.abs (fun g => g 0 = vb ∧ g 2 = (ptr b2 0) ∧ g 3 = (i64 (k : Int)) ∧ g 5 = (u8 (l.getD (4 * k + 3) 0)) ∧ g 8 = (i64 (k : Int)) ∧ g 9 = (bl (decide ((k : Int) < 64))) ∧ g 12 = (bl (decide ((k : Int) < 16))) ∧ g 19 = (V8 vb (4 * (k : Int)) (4 * (k : Int) + 4)) ∧ g 20 = (i64 4) ∧ g 21 = (i64 3) ∧ g 22 = (bl true) ∧ True) ⟨s0, s2, s3, rfl, s8, s9, s12, s19, s20, rfl, rfl, trivial⟩ ?_
       rintro fr14 ⟨s0, s2, s3, s5, s8, s9, s12, s19, s20, s21, s22, _⟩
       refine Qg <| Qb (v := (i64 4)) rfl (Qk (a := 3) (b := 1) s21 rfl oM oM) <| Qb rfl (Qc (v := (i64 4)) rfl) ?_
       refine rN (Zu (sR ?_))
       refine Qb rfl (Qs (a := 4) (b := 4) rfl s20) ?_
       refine rN (Qh ?_)
       refine Yt rfl (by decide) <| Yb ?_
       refine Zb (Zb (Xw ?_))
       refine Yb ?_
       refine Zb (Xw ?_)
       refine Qg <| Qb rfl (Qk (b := 1) s8 rfl oM oM) <| Qb rfl (Qc (v := (i64 ((k : Int) + 1))) rfl) <| rN ?_
       have hwn : (((wl.set k (((wl.getD k 0) <<< 8) ||| ((l.getD (4 * k) 0).setWidth 32))).set k ((((wl.set k (((wl.getD k 0) <<< 8) ||| ((l.getD (4 * k) 0).setWidth 32))).getD k 0) <<< 8) ||| ((l.getD (4 * k + 1) 0).setWidth 32))).set k (((((wl.set k (((wl.getD k 0) <<< 8) ||| ((l.getD (4 * k) 0).setWidth 32))).set k ((((wl.set k (((wl.getD k 0) <<< 8) ||| ((l.getD (4 * k) 0).setWidth 32))).getD k 0) <<< 8) ||| ((l.getD (4 * k + 1) 0).setWidth 32))).getD k 0) <<< 8) ||| ((l.getD (4 * k + 2) 0).setWidth 32))).set k ((((((wl.set k (((wl.getD k 0) <<< 8) ||| ((l.getD (4 * k) 0).setWidth 32))).set k ((((wl.set k (((wl.getD k 0) <<< 8) ||| ((l.getD (4 * k) 0).setWidth 32))).getD k 0) <<< 8) ||| ((l.getD (4 * k + 1) 0).setWidth 32))).set k (((((wl.set k (((wl.getD k 0) <<< 8) ||| ((l.getD (4 * k) 0).setWidth 32))).set k ((((wl.set k (((wl.getD k 0) <<< 8) ||| ((l.getD (4 * k) 0).setWidth 32))).getD k 0) <<< 8) ||| ((l.getD (4 * k + 1) 0).setWidth 32))).getD k 0) <<< 8) ||| ((l.getD (4 * k + 2) 0).setWidth 32))).getD k 0) <<< 8) ||| ((l.getD (4 * k + 3) 0).setWidth 32)) = Vq l (k + 1) := by
         exact Qe5 l k oM (l.getD (4 * k) 0) (l.getD (4 * k + 1) 0) (l.getD (4 * k + 2) 0) (l.getD (4 * k + 3) 0) rfl rfl rfl rfl wl hw
       exact ⟨⟨k + 1, (((wl.set k (((wl.getD k 0) <<< 8) ||| ((l.getD (4 * k) 0).setWidth 32))).set k ((((wl.set k (((wl.getD k 0) <<< 8) ||| ((l.getD (4 * k) 0).setWidth 32))).getD k 0) <<< 8) ||| ((l.getD (4 * k + 1) 0).setWidth 32))).set k (((((wl.set k (((wl.getD k 0) <<< 8) ||| ((l.getD (4 * k) 0).setWidth 32))).set k ((((wl.set k (((wl.getD k 0) <<< 8) ||| ((l.getD (4 * k) 0).setWidth 32))).getD k 0) <<< 8) ||| ((l.getD (4 * k + 1) 0).setWidth 32))).getD k 0) <<< 8) ||| ((l.getD (4 * k + 2) 0).setWidth 32))).set k ((((((wl.set k (((wl.getD k 0) <<< 8) ||| ((l.getD (4 * k) 0).setWidth 32))).set k ((((wl.set k (((wl.getD k 0) <<< 8) ||| ((l.getD (4 * k) 0).setWidth 32))).getD k 0) <<< 8) ||| ((l.getD (4 * k + 1) 0).setWidth 32))).set k (((((wl.set k (((wl.getD k 0) <<< 8) ||| ((l.getD (4 * k) 0).setWidth 32))).set k ((((wl.set k (((wl.getD k 0) <<< 8) ||| ((l.getD (4 * k) 0).setWidth 32))).getD k 0) <<< 8) ||| ((l.getD (4 * k + 1) 0).setWidth 32))).getD k 0) <<< 8) ||| ((l.getD (4 * k + 2) 0).setWidth 32))).getD k 0) <<< 8) ||| ((l.getD (4 * k + 3) 0).setWidth 32)), oM, hwn, s0, s2, rfl, hm13⟩, Fj rfl z8 oM oM⟩
     ·
       have hc5p := of_decide_eq_false hc5
       refine Zc (Qi (Qh ?_))
       refine Yc [(0, false), (1, false), (2, false), (3, false), (4, false), (5, false), (6, false), (7, false), (8, false)] 9 (by kernel_rfl) <| Qw rfl rfl (fun _ _hx => Qc (v := (i64 (k : Int))) rfl) <| Qw rfl rfl (fun _ _hx => Yo (b := 15) rfl rfl oM oM) <| Qw rfl rfl (fun _ _hx => Qm (r := ((k : Int) - 15 : Int).toNat) oM Ux Xb s2 rfl oM sD) <| Qw (v := (u32 (wl.getD (((k : Int) - 15 : Int).toNat) 0))) rfl rfl (fun _ _hx => Qy Yx rfl rfl (hm3.ext _hx).h0 (Zm _ _ 0 sD)) <| Qw rfl rfl (fun _ _hx => Qc (v := (i64 (k : Int))) rfl) <| Qw rfl rfl (fun _ _hx => Yo (b := 2) rfl rfl oM oM) <| Qw rfl rfl (fun _ _hx => Qm (r := ((k : Int) - 2 : Int).toNat) oM Ux Xb s2 rfl oM sD) <| Qw (v := (u32 (wl.getD (((k : Int) - 2 : Int).toNat) 0))) rfl rfl (fun _ _hx => Qy Yx rfl rfl (hm3.ext _hx).h0 (Zm _ _ 0 sD)) <| Qw rfl rfl (fun _ _hx => Qd (v := (u32 (wl.getD (((k : Int) - 15 : Int).toNat) 0))) rfl) ?_
       refine X3 (fun w15 _ew15 => ?_)
       have hm15 := hm3.ext _ew15
       refine Qb rfl (Qd (v := (u32 (wl.getD (((k : Int) - 2 : Int).toNat) 0))) rfl) <| rN ?_
       refine CW.abs (fun g => g 0 = vb ∧ g 2 = (ptr b2 0) ∧ g 3 = (i64 (k : Int)) ∧ g 6 = (u32 (wl.getD (((k : Int) - 15 : Int).toNat) 0)) ∧ g 7 = (u32 (wl.getD (((k : Int) - 2 : Int).toNat) 0)) ∧ g 8 = (i64 (k : Int)) ∧ g 9 = (bl (decide ((k : Int) < 64))) ∧ g 12 = (bl (decide ((k : Int) < 16))) ∧ True) ⟨s0, s2, rfl, rfl, rfl, s8, rfl, rfl, trivial⟩ ?_
       rintro fr16 ⟨s0, s2, s3, s6, s7, s8, s9, s12, _⟩
       refine Qh <| Yc [(0, false), (1, false), (2, false), (3, false), (4, false), (5, false), (6, false), (7, false), (8, false), (9, false)] 10 (by kernel_rfl) <| dM rfl rfl s3 <| dM rfl rfl s3 <| Qw rfl rfl (fun _ _hx => Yo (b := 16) rfl rfl oM oM) <| Qw rfl rfl (fun _ _hx => Qm (r := ((k : Int) - 16 : Int).toNat) oM Ux Xb s2 rfl oM sD) <| Qw (v := (u32 (wl.getD (((k : Int) - 16 : Int).toNat) 0))) rfl rfl (fun _ _hx => Qy Yx rfl rfl (hm15.ext _hx).h0 (Zm _ _ 0 sD)) <| dM rfl rfl s3 <| Qw rfl rfl (fun _ _hx => Yo (b := 7) rfl rfl oM oM) <| Qw rfl rfl (fun _ _hx => Qm (r := ((k : Int) - 7 : Int).toNat) oM Ux Xb s2 rfl oM sD) <| Qw (v := (u32 (wl.getD (((k : Int) - 7 : Int).toNat) 0))) rfl rfl (fun _ _hx => Qy Yx rfl rfl (hm15.ext _hx).h0 (Zm _ _ 0 sD)) <| Qw rfl rfl (fun _ _hx => Y1 rfl rfl) ?_
       refine X3 (fun w17 _ew17 => ?_)
       have hm17 := hm15.ext _ew17
       refine Qb rfl (Qm (r := k) oM Ux Xb s2 rfl oM sD) <| Xf (Yj (f := u32) (a := (wl.getD (((k : Int) - 16 : Int).toNat) 0) + (wl.getD (((k : Int) - 7 : Int).toNat) 0)) Xq Xb rfl rfl hm17.h0 sD (.inl (Nat.zero_le _))) ?_
       rintro _ w18 uq18
       have hm18 := hm17.upd0 uq18
       refine rN ?_
       refine CW.abs (fun g => g 0 = vb ∧ g 2 = (ptr b2 0) ∧ g 3 = (i64 (k : Int)) ∧ g 6 = (u32 (wl.getD (((k : Int) - 15 : Int).toNat) 0)) ∧ g 7 = (u32 (wl.getD (((k : Int) - 2 : Int).toNat) 0)) ∧ g 8 = (i64 (k : Int)) ∧ g 9 = (bl (decide ((k : Int) < 64))) ∧ g 12 = (bl (decide ((k : Int) < 16))) ∧ True) ⟨s0, s2, s3, s6, s7, s8, s9, s12, trivial⟩ ?_
       rintro fr19 ⟨s0, s2, s3, s6, s7, s8, s9, s12, _⟩
       refine Qh <| Yc [(0, false), (1, false), (2, false), (3, false), (4, false), (5, false), (6, false), (7, false), (8, false), (9, false), (10, false)] 11 (by kernel_rfl) <| dM rfl rfl s3 <| Qw rfl rfl (fun _ _hx => Qm (r := k) oM Ux Xb s2 rfl oM sD) <| Qw (v := (u32 ((wl.set k ((wl.getD (((k : Int) - 16 : Int).toNat) 0) + (wl.getD (((k : Int) - 7 : Int).toNat) 0))).getD k 0))) rfl rfl (fun _ _hx => Qy Yx rfl rfl (hm18.ext _hx).h0 (Zm _ _ 0 sD)) <| dM rfl rfl s6 <| Gu (v := (u32 (Za (wl.getD (((k : Int) - 15 : Int).toNat) 0) ((-7) : Int)))) rfl rfl (fun w20 _ew20 => Jr.mono (Qx Tryd.func112 Cm Cf (Yk rfl rfl) (V4 (wl.getD (((k : Int) - 15 : Int).toNat) 0) ((-7) : Int) _)) (by rintro _ w21 ⟨rfl, rfl⟩; exact ⟨rfl, Ext.refl _⟩)) <| dM rfl rfl s6 <| Gu (v := (u32 (Za (wl.getD (((k : Int) - 15 : Int).toNat) 0) ((-18) : Int)))) rfl rfl (fun w23 _ew23 => Jr.mono (Qx Tryd.func112 Cm Cf (Yk rfl rfl) (V4 (wl.getD (((k : Int) - 15 : Int).toNat) 0) ((-18) : Int) _)) (by rintro _ w24 ⟨rfl, rfl⟩; exact ⟨rfl, Ext.refl _⟩)) <| Qw rfl rfl (fun _ _hx => Kv rfl rfl) <| dM rfl rfl s6 <| Qw rfl rfl (fun _ _hx => Dz (b := 3) rfl rfl oM) ?_
       refine Qw rfl rfl (fun _ _hx => Kv rfl rfl) ?_
       refine X3 (fun w26 _ew26 => ?_)
       have hm26 := hm18.ext _ew26
       refine Qb rfl (Y1 rfl rfl) <| Qb rfl (Qm (r := k) oM Ux Xb s2 rfl oM sD) <| Xf (Yj (f := u32) (a := ((wl.set k ((wl.getD (((k : Int) - 16 : Int).toNat) 0) + (wl.getD (((k : Int) - 7 : Int).toNat) 0))).getD k 0) + (((Za (wl.getD (((k : Int) - 15 : Int).toNat) 0) ((-7) : Int)) ^^^ (Za (wl.getD (((k : Int) - 15 : Int).toNat) 0) ((-18) : Int))) ^^^ ((wl.getD (((k : Int) - 15 : Int).toNat) 0) >>> 3))) Xq Xb rfl rfl hm26.h0 sD (.inl (Nat.zero_le _))) ?_
       rintro _ w27 uq27
       have hm27 := hm26.upd0 uq27
       refine rN ?_
       refine CW.abs (fun g => g 0 = vb ∧ g 2 = (ptr b2 0) ∧ g 3 = (i64 (k : Int)) ∧ g 6 = (u32 (wl.getD (((k : Int) - 15 : Int).toNat) 0)) ∧ g 7 = (u32 (wl.getD (((k : Int) - 2 : Int).toNat) 0)) ∧ g 8 = (i64 (k : Int)) ∧ g 9 = (bl (decide ((k : Int) < 64))) ∧ g 12 = (bl (decide ((k : Int) < 16))) ∧ True) ⟨s0, s2, s3, s6, s7, s8, s9, s12, trivial⟩ ?_
       rintro fr28 ⟨s0, s2, s3, s6, s7, s8, s9, s12, _⟩
       refine Yc [(0, false), (1, false), (2, false), (3, false), (4, false), (5, false), (6, false), (7, false), (8, false), (9, false), (10, false)] 11 (by kernel_rfl) <| dM rfl rfl s3 <| Qw rfl rfl (fun _ _hx => Qm (r := k) oM Ux Xb s2 rfl oM sD) <| Qw rfl rfl (fun _ _hx => Qy Yx rfl rfl (hm27.ext _hx).h0 (Zm _ _ 0 sD)) <| dM rfl rfl s7 <| Gu (v := (u32 (Za (wl.getD (((k : Int) - 2 : Int).toNat) 0) ((-17) : Int)))) rfl rfl (fun w29 _ew29 => Jr.mono (Qx Tryd.func112 Cm Cf (Yk rfl rfl) (V4 (wl.getD (((k : Int) - 2 : Int).toNat) 0) ((-17) : Int) _)) (by rintro _ w30 ⟨rfl, rfl⟩; exact ⟨rfl, Ext.refl _⟩)) <| dM rfl rfl s7 <| Gu (v := (u32 (Za (wl.getD (((k : Int) - 2 : Int).toNat) 0) ((-19) : Int)))) rfl rfl (fun w32 _ew32 => Jr.mono (Qx Tryd.func112 Cm Cf (Yk rfl rfl) (V4 (wl.getD (((k : Int) - 2 : Int).toNat) 0) ((-19) : Int) _)) (by rintro _ w33 ⟨rfl, rfl⟩; exact ⟨rfl, Ext.refl _⟩)) <| Qw rfl rfl (fun _ _hx => Kv rfl rfl) <| dM rfl rfl s7 <| Qw rfl rfl (fun _ _hx => Dz (b := 10) rfl rfl oM) <| Qw rfl rfl (fun _ _hx => Kv rfl rfl) ?_
       refine X3 (fun w35 _ew35 => ?_)
       have hm35 := hm27.ext _ew35
       refine Qb rfl (Y1 rfl rfl) <| Qb rfl (Qm (r := k) oM Ux Xb s2 rfl oM sD) <| Xf (Yj (f := u32) (a := (((wl.set k ((wl.getD (((k : Int) - 16 : Int).toNat) 0) + (wl.getD (((k : Int) - 7 : Int).toNat) 0))).set k (((wl.set k ((wl.getD (((k : Int) - 16 : Int).toNat) 0) + (wl.getD (((k : Int) - 7 : Int).toNat) 0))).getD k 0) + (((Za (wl.getD (((k : Int) - 15 : Int).toNat) 0) ((-7) : Int)) ^^^ (Za (wl.getD (((k : Int) - 15 : Int).toNat) 0) ((-18) : Int))) ^^^ ((wl.getD (((k : Int) - 15 : Int).toNat) 0) >>> 3)))).getD k 0) + (((Za (wl.getD (((k : Int) - 2 : Int).toNat) 0) ((-17) : Int)) ^^^ (Za (wl.getD (((k : Int) - 2 : Int).toNat) 0) ((-19) : Int))) ^^^ ((wl.getD (((k : Int) - 2 : Int).toNat) 0) >>> 10))) Xq Xb rfl rfl hm35.h0 sD (.inl (Nat.zero_le _))) ?_
       rintro _ w36 uq36
       have hm36 := hm35.upd0 uq36
       refine Zz (Qn ?_)
       refine CW.abs (fun g => g 0 = vb ∧ g 2 = (ptr b2 0) ∧ g 3 = (i64 (k : Int)) ∧ g 6 = (u32 (wl.getD (((k : Int) - 15 : Int).toNat) 0)) ∧ g 7 = (u32 (wl.getD (((k : Int) - 2 : Int).toNat) 0)) ∧ g 8 = (i64 (k : Int)) ∧ g 9 = (bl (decide ((k : Int) < 64))) ∧ g 12 = (bl (decide ((k : Int) < 16))) ∧ True) ⟨s0, s2, s3, s6, s7, s8, s9, s12, trivial⟩ ?_
       rintro fr37 ⟨s0, s2, s3, s6, s7, s8, s9, s12, _⟩
       refine Qg <| Qb rfl (Qk (b := 1) s8 rfl oM oM) <| Qb rfl (Qc (v := (i64 ((k : Int) + 1))) rfl) <| rN ?_
       have hwn : ((wl.set k ((wl.getD (((k : Int) - 16 : Int).toNat) 0) + (wl.getD (((k : Int) - 7 : Int).toNat) 0))).set k (((wl.set k ((wl.getD (((k : Int) - 16 : Int).toNat) 0) + (wl.getD (((k : Int) - 7 : Int).toNat) 0))).getD k 0) + (((Za (wl.getD (((k : Int) - 15 : Int).toNat) 0) ((-7) : Int)) ^^^ (Za (wl.getD (((k : Int) - 15 : Int).toNat) 0) ((-18) : Int))) ^^^ ((wl.getD (((k : Int) - 15 : Int).toNat) 0) >>> 3)))).set k ((((wl.set k ((wl.getD (((k : Int) - 16 : Int).toNat) 0) + (wl.getD (((k : Int) - 7 : Int).toNat) 0))).set k (((wl.set k ((wl.getD (((k : Int) - 16 : Int).toNat) 0) + (wl.getD (((k : Int) - 7 : Int).toNat) 0))).getD k 0) + (((Za (wl.getD (((k : Int) - 15 : Int).toNat) 0) ((-7) : Int)) ^^^ (Za (wl.getD (((k : Int) - 15 : Int).toNat) 0) ((-18) : Int))) ^^^ ((wl.getD (((k : Int) - 15 : Int).toNat) 0) >>> 3)))).getD k 0) + (((Za (wl.getD (((k : Int) - 2 : Int).toNat) 0) ((-17) : Int)) ^^^ (Za (wl.getD (((k : Int) - 2 : Int).toNat) 0) ((-19) : Int))) ^^^ ((wl.getD (((k : Int) - 2 : Int).toNat) 0) >>> 10))) = Vq l (k + 1) := by
         have e16 : ((k : Int) - 16).toNat = k - 16 := by omega
         have e7 : ((k : Int) - 7).toNat = k - 7 := by omega
         have e15 : ((k : Int) - 15).toNat = k - 15 := by omega
         have e2 : ((k : Int) - 2).toNat = k - 2 := by omega
         rw [e16, e7, e15, e2]
         exact Qfx l k oM oM wl hw _ _ _ rfl rfl rfl
       exact ⟨⟨k + 1, ((wl.set k ((wl.getD (((k : Int) - 16 : Int).toNat) 0) + (wl.getD (((k : Int) - 7 : Int).toNat) 0))).set k (((wl.set k ((wl.getD (((k : Int) - 16 : Int).toNat) 0) + (wl.getD (((k : Int) - 7 : Int).toNat) 0))).getD k 0) + (((Za (wl.getD (((k : Int) - 15 : Int).toNat) 0) ((-7) : Int)) ^^^ (Za (wl.getD (((k : Int) - 15 : Int).toNat) 0) ((-18) : Int))) ^^^ ((wl.getD (((k : Int) - 15 : Int).toNat) 0) >>> 3)))).set k ((((wl.set k ((wl.getD (((k : Int) - 16 : Int).toNat) 0) + (wl.getD (((k : Int) - 7 : Int).toNat) 0))).set k (((wl.set k ((wl.getD (((k : Int) - 16 : Int).toNat) 0) + (wl.getD (((k : Int) - 7 : Int).toNat) 0))).getD k 0) + (((Za (wl.getD (((k : Int) - 15 : Int).toNat) 0) ((-7) : Int)) ^^^ (Za (wl.getD (((k : Int) - 15 : Int).toNat) 0) ((-18) : Int))) ^^^ ((wl.getD (((k : Int) - 15 : Int).toNat) 0) >>> 3)))).getD k 0) + (((Za (wl.getD (((k : Int) - 2 : Int).toNat) 0) ((-17) : Int)) ^^^ (Za (wl.getD (((k : Int) - 2 : Int).toNat) 0) ((-19) : Int))) ^^^ ((wl.getD (((k : Int) - 2 : Int).toNat) 0) >>> 10))), oM, hwn, s0, s2, rfl, hm36⟩, Fj rfl z8 oM oM⟩
   ·
     have hc4p := of_decide_eq_false hc4
     obtain rfl : k = 64 := by omega
     have hwl : wl.length = 64 := by rw [hw, Lp]
     refine Yb ?_
     refine Zb (Zb (Xw ?_))
     refine sR <| Qb (v := (agg u32 wl)) rfl (Z9 Ux rfl ti160 s2 hm3.h0 sZ) <| Xf (Zl (f := u32) (l := wl) Xq ti160 s2 rfl sD hm3.h0 sZ rfl) ?_
     rintro _ w38 uq38
     have hm38 := hm3.upd0 uq38
     refine rN (Xn ?_)
     refine Zj [(agg u32 wl)] ⟨⟨_, s2, X6 Ux rfl ti160 hm38.h0 sZ⟩, trivial⟩ ?_
     exact ⟨congrArg (agg u32) hw, hm38.toExt⟩
theorem c_take (bd : Nat) (x0 x1 x2 x3 x4 x5 x6 x7 : BitVec 32) (v : Value) (n : BitVec 64) (vb : Value) (l : List (BitVec 8)) (w0 : World) (R : Rest) (hm0 : Mem w0 R [(bd, .cells #[(u32 x0), (u32 x1), (u32 x2), (u32 x3), (u32 x4), (u32 x5), (u32 x6), (u32 x7), v, (u64 n)] 154 (0, 0))]) (hT : Tabs R.blk) (hr : Rd R.blk u8 vb l) (hl : l.length = 64) : X8 Tryd.prog 102 #[(ptr bd 0), vb] w0 (fun r w1 => ∃ y0 y1 y2 y3 y4 y5 y6 y7, [y0, y1, y2, y3, y4, y5, y6, y7] = Qdl [x0, x1, x2, x3, x4, x5, x6, x7] l ∧ Mem w1 R [(bd, .cells #[(u32 y0), (u32 y1), (u32 y2), (u32 y3), (u32 y4), (u32 y5), (u32 y6), (u32 y7), v, (u64 n)] 154 (0, 0))]) := by
 refine Zp (args := [(ptr bd 0), vb]) Tryd.func102 rfl Tryd.ntmps102 Tryd.results102 rfl ?_
 obtain ⟨Es, fzs, hTs⟩ := hT.start
 obtain ⟨Er, fzr, hTr⟩ := hT.round
 refine Qh <| Yc [(0, false), (1, false), (2, false), (3, false), (4, false), (5, false), (6, false), (7, false), (8, false), (9, false), (10, false), (11, false), (12, false), (13, false), (14, false), (15, false), (16, false), (17, false), (18, false), (19, false), (20, false), (21, false), (22, false), (23, false), (24, false), (25, false), (26, false), (27, false), (28, false), (29, false), (30, false), (31, false), (32, false), (33, false), (34, false), (35, false), (36, false), (37, false), (38, false), (39, false), (40, false), (41, false), (42, false), (43, false), (44, false), (45, false), (46, false)] 47 (by kernel_rfl) <| Qw rfl rfl (fun _ _hx => Qc (v := (ptr bd 0)) rfl) <| Qw rfl rfl (fun _ _hx => Zv rfl) <| Qw rfl rfl (fun _ _hx => Zr (r := 0) Jk rfl (by first | rfl | omega) Vw rfl rfl) <| Qw rfl rfl (fun _ _hx => Qm (r := 0) (i := 0) oM Wu Xb rfl rfl oM oM) <| Qw (v := (u32 x0)) rfl rfl (fun _ _hx => Qy Yx rfl rfl (hm0.ext _hx).h0 rfl) <| Qw rfl rfl (fun _ _hx => Qc (v := (ptr bd 0)) rfl) <| Qw rfl rfl (fun _ _hx => Zv rfl) <| Qw rfl rfl (fun _ _hx => Zr (r := 0) Jk rfl (by first | rfl | omega) Vw rfl rfl) <| Qw rfl rfl (fun _ _hx => Qm (r := 1) (i := 1) oM Wu Xb rfl rfl oM oM) <| Qw (v := (u32 x1)) rfl rfl (fun _ _hx => Qy Yx rfl rfl (hm0.ext _hx).h0 rfl) ?_
 refine Qw rfl rfl (fun _ _hx => Qc (v := (ptr bd 0)) rfl) <| Qw rfl rfl (fun _ _hx => Zv rfl) <| Qw rfl rfl (fun _ _hx => Zr (r := 0) Jk rfl (by first | rfl | omega) Vw rfl rfl) <| Qw rfl rfl (fun _ _hx => Qm (r := 2) (i := 2) oM Wu Xb rfl rfl oM oM) <| Qw (v := (u32 x2)) rfl rfl (fun _ _hx => Qy Yx rfl rfl (hm0.ext _hx).h0 rfl) <| Qw rfl rfl (fun _ _hx => Qc (v := (ptr bd 0)) rfl) <| Qw rfl rfl (fun _ _hx => Zv rfl) <| Qw rfl rfl (fun _ _hx => Zr (r := 0) Jk rfl (by first | rfl | omega) Vw rfl rfl) <| Qw rfl rfl (fun _ _hx => Qm (r := 3) (i := 3) oM Wu Xb rfl rfl oM oM) <| Qw (v := (u32 x3)) rfl rfl (fun _ _hx => Qy Yx rfl rfl (hm0.ext _hx).h0 rfl) <| Qw rfl rfl (fun _ _hx => Qc (v := (ptr bd 0)) rfl) <| Qw rfl rfl (fun _ _hx => Zv rfl) ?_
 refine Qw rfl rfl (fun _ _hx => Zr (r := 0) Jk rfl (by first | rfl | omega) Vw rfl rfl) <| Qw rfl rfl (fun _ _hx => Qm (r := 4) (i := 4) oM Wu Xb rfl rfl oM oM) <| Qw (v := (u32 x4)) rfl rfl (fun _ _hx => Qy Yx rfl rfl (hm0.ext _hx).h0 rfl) <| Qw rfl rfl (fun _ _hx => Qc (v := (ptr bd 0)) rfl) <| Qw rfl rfl (fun _ _hx => Zv rfl) <| Qw rfl rfl (fun _ _hx => Zr (r := 0) Jk rfl (by first | rfl | omega) Vw rfl rfl) <| Qw rfl rfl (fun _ _hx => Qm (r := 5) (i := 5) oM Wu Xb rfl rfl oM oM) <| Qw (v := (u32 x5)) rfl rfl (fun _ _hx => Qy Yx rfl rfl (hm0.ext _hx).h0 rfl) <| Qw rfl rfl (fun _ _hx => Qc (v := (ptr bd 0)) rfl) <| Qw rfl rfl (fun _ _hx => Zv rfl) <| Qw rfl rfl (fun _ _hx => Zr (r := 0) Jk rfl (by first | rfl | omega) Vw rfl rfl) <| Qw rfl rfl (fun _ _hx => Qm (r := 6) (i := 6) oM Wu Xb rfl rfl oM oM) ?_
 refine Qw (v := (u32 x6)) rfl rfl (fun _ _hx => Qy Yx rfl rfl (hm0.ext _hx).h0 rfl) <| Qw rfl rfl (fun _ _hx => Qc (v := (ptr bd 0)) rfl) <| Qw rfl rfl (fun _ _hx => Zv rfl) <| Qw rfl rfl (fun _ _hx => Zr (r := 0) Jk rfl (by first | rfl | omega) Vw rfl rfl) <| Qw rfl rfl (fun _ _hx => Qm (r := 7) (i := 7) oM Wu Xb rfl rfl oM oM) <| Qw (v := (u32 x7)) rfl rfl (fun _ _hx => Qy Yx rfl rfl (hm0.ext _hx).h0 rfl) <| Qw rfl rfl (fun _ _hx => Qd (v := (u32 x0)) rfl) <| Qw rfl rfl (fun _ _hx => Qd (v := (u32 x1)) rfl) <| Qw rfl rfl (fun _ _hx => Qd (v := (u32 x2)) rfl) <| Qw rfl rfl (fun _ _hx => Qd (v := (u32 x3)) rfl) <| Qw rfl rfl (fun _ _hx => Qd (v := (u32 x4)) rfl) <| Qw rfl rfl (fun _ _hx => Qd (v := (u32 x5)) rfl) ?_
 refine Qw rfl rfl (fun _ _hx => Qd (v := (u32 x6)) rfl) ?_
 refine X3 (fun w1 _ew1 => ?_)
 have hm1 := hm0.ext _ew1
 refine Qb rfl (Qd (v := (u32 x7)) rfl) <| rN ?_
 refine CW.abs (fun g => g 0 = (ptr bd 0) ∧ g 1 = vb ∧ g 4 = (u32 x0) ∧ g 5 = (u32 x1) ∧ g 6 = (u32 x2) ∧ g 7 = (u32 x3) ∧ g 8 = (u32 x4) ∧ g 9 = (u32 x5) ∧ g 10 = (u32 x6) ∧ g 11 = (u32 x7) ∧ True) ⟨rfl, rfl, rfl, rfl, rfl, rfl, rfl, rfl, rfl, rfl, trivial⟩ ?_
 rintro fr2 ⟨s0, s1, s4, s5, s6, s7, s8, s9, s10, s11, _⟩
 refine Qh (sR ?_)
 refine rM rfl s1 <| Zo rfl (Qx Tryd.func111 bd111 nm111 (Ye rfl) (Qgn vb l _ (Rd.ofRest hr hm1) sD)) ?_
 rintro _ w3 ⟨rfl, _ew3⟩
 have hm3 := hm1.ext _ew3
 refine Qb rfl (Qc (v := (i64 0)) rfl) ?_
 refine rN (Qv ?_)
 refine Jg (fun g wv => ∃ (k : Nat) (sa sz sc se sf sg sh sk : BitVec 32), (k ≤ 64) ∧ ([sa, sz, sc, se, sf, sg, sh, sk] = Qay (Jy l) k [x0, x1, x2, x3, x4, x5, x6, x7]) ∧ g 0 = (ptr bd 0) ∧ g 1 = vb ∧ g 4 = (u32 sa) ∧ g 5 = (u32 sz) ∧ g 6 = (u32 sc) ∧ g 7 = (u32 se) ∧ g 8 = (u32 sf) ∧ g 9 = (u32 sg) ∧ g 10 = (u32 sh) ∧ g 11 = (u32 sk) ∧ g 59 = (agg u32 (Jy l)) ∧ g 60 = (i64 (k : Int)) ∧ Mem wv R [(bd, .cells #[(u32 x0), (u32 x1), (u32 x2), (u32 x3), (u32 x4), (u32 x5), (u32 x6), (u32 x7), v, (u64 n)] 154 (0, 0))]) (fun g wv => (64 - RowKit.intOf (g 60)).toNat) ?_ ?_
 · exact ⟨0, x0, x1, x2, x3, x4, x5, x6, x7, oM, rfl, s0, s1, s4, s5, s6, s7, s8, s9, s10, s11, rfl, rfl, hm3⟩
 · rintro fr5 w6 ⟨k, sa, sz, sc, se, sf, sg, sh, sk, hk1, hs, s0, s1, s4, s5, s6, s7, s8, s9, s10, s11, s59, s60, hm6⟩
   have z60 := s60
   have z4 := s4
   have z5 := s5
   have z6 := s6
   have z7 := s7
   have z8 := s8
   have z9 := s9
   have z10 := s10
   have z11 := s11
   refine sR <| Qb rfl (Qs (b := 64) s60 rfl) ?_
   refine rN (Qh ?_)
   refine Xy rfl (fun hc7 => ?_) (fun hc7 => ?_)
   ·
     have hc7p := of_decide_eq_true hc7
     refine Zc (Qi (Qh (Qv (sR ?_))))
     refine rM rfl s60 <| Qb (v := (u32 ((Jy l).getD k 0))) rfl (Yn Ux Yx rfl Xb s59 s60 oM sD (Zm _ _ 0 sD)) <| Qb rfl (Qd (v := (i64 (k : Int))) rfl) <| Qb rfl (Qd (v := (u32 ((Jy l).getD k 0))) rfl) ?_
     refine rN (sR ?_)
     refine rM rfl s11 <| Qb rfl (Qc (v := (u32 ((Jy l).getD k 0))) rfl) <| Qb rfl (Y1 rfl rfl) <| Qb rfl (Qc (v := (i64 (k : Int))) rfl) <| Qb rfl (Qm (r := k) oM Ux Xb rfl rfl oM sD) <| Qb (v := (u32 (F9.getD k 0))) rfl (Qy Yx rfl rfl (hm6.rest _ _ hTr) (Zm _ _ 0 sD)) <| Qb rfl (Y1 rfl rfl) <| rM rfl s8 <| rM rfl s9 <| Qb rfl (D5 rfl rfl) <| rM rfl s8 <| Qb rfl (Qge rfl) ?_
     refine rM rfl s10 <| Qb rfl (D5 rfl rfl) <| Qb rfl (Kv rfl rfl) <| Qb rfl (Y1 rfl rfl) <| rA rfl rfl <| rN ?_
     refine CW.abs (fun g => g 0 = (ptr bd 0) ∧ g 1 = vb ∧ g 4 = (u32 sa) ∧ g 5 = (u32 sz) ∧ g 6 = (u32 sc) ∧ g 7 = (u32 se) ∧ g 8 = (u32 sf) ∧ g 9 = (u32 sg) ∧ g 10 = (u32 sh) ∧ g 11 = (u32 sk) ∧ g 12 = (i64 (k : Int)) ∧ g 13 = (u32 ((Jy l).getD k 0)) ∧ g 14 = (u32 (((sk + ((Jy l).getD k 0)) + (F9.getD k 0)) + ((sf &&& sg) ^^^ ((~~~sf) &&& sh)))) ∧ g 59 = (agg u32 (Jy l)) ∧ g 60 = (i64 (k : Int)) ∧ g 61 = (bl (decide ((k : Int) < 64))) ∧ True) ⟨s0, s1, s4, s5, s6, s7, s8, s9, s10, s11, rfl, rfl, rfl, s59, s60, rfl, trivial⟩ ?_
     rintro fr8 ⟨s0, s1, s4, s5, s6, s7, s8, s9, s10, s11, s12, s13, s14, s59, s60, s61, _⟩
     refine sR <| rM rfl s14 <| rM rfl s8 <| Zo rfl (Qx Tryd.func112 Cm Cf (Yk rfl rfl) (V4 sf ((-6) : Int) _)) ?_
     rintro _ w9 ⟨rfl, rfl⟩
     refine rM rfl s8 <| Zo rfl (Qx Tryd.func112 Cm Cf (Yk rfl rfl) (V4 sf ((-11) : Int) _)) ?_
     rintro _ w11 ⟨rfl, rfl⟩
     refine Qb rfl (Kv rfl rfl) <| rM rfl s8 <| Zo rfl (Qx Tryd.func112 Cm Cf (Yk rfl rfl) (V4 sf ((-25) : Int) _)) ?_
     rintro _ w13 ⟨rfl, rfl⟩
     refine Qb rfl (Kv rfl rfl) <| Qb rfl (Y1 rfl rfl) <| rA rfl rfl ?_
     refine rN (sR ?_)
     refine rM rfl s4 <| rM rfl s5 <| Qb rfl (D5 rfl rfl) <| rM rfl s4 <| rM rfl s6 <| Qb rfl (D5 rfl rfl) <| Qb rfl (Kv rfl rfl) <| rM rfl s5 <| rM rfl s6 <| Qb rfl (D5 rfl rfl) <| Qb rfl (Kv rfl rfl) <| Qb rfl (Qd (v := (u32 (((sa &&& sz) ^^^ (sa &&& sc)) ^^^ (sz &&& sc)))) rfl) ?_
     refine rN ?_
     refine CW.abs (fun g => g 0 = (ptr bd 0) ∧ g 1 = vb ∧ g 4 = (u32 sa) ∧ g 5 = (u32 sz) ∧ g 6 = (u32 sc) ∧ g 7 = (u32 se) ∧ g 8 = (u32 sf) ∧ g 9 = (u32 sg) ∧ g 10 = (u32 sh) ∧ g 11 = (u32 sk) ∧ g 12 = (i64 (k : Int)) ∧ g 13 = (u32 ((Jy l).getD k 0)) ∧ g 14 = (u32 ((((sk + ((Jy l).getD k 0)) + (F9.getD k 0)) + ((sf &&& sg) ^^^ ((~~~sf) &&& sh))) + (((Za sf ((-6) : Int)) ^^^ (Za sf ((-11) : Int))) ^^^ (Za sf ((-25) : Int))))) ∧ g 15 = (u32 (((sa &&& sz) ^^^ (sa &&& sc)) ^^^ (sz &&& sc))) ∧ g 59 = (agg u32 (Jy l)) ∧ g 60 = (i64 (k : Int)) ∧ g 61 = (bl (decide ((k : Int) < 64))) ∧ True) ⟨s0, s1, s4, s5, s6, s7, s8, s9, s10, s11, s12, s13, rfl, rfl, s59, s60, s61, trivial⟩ ?_
     rintro fr15 ⟨s0, s1, s4, s5, s6, s7, s8, s9, s10, s11, s12, s13, s14, s15, s59, s60, s61, _⟩
     refine sR <| rM rfl s15 <| rM rfl s4 <| Zo rfl (Qx Tryd.func112 Cm Cf (Yk rfl rfl) (V4 sa ((-2) : Int) _)) ?_
     rintro _ w16 ⟨rfl, rfl⟩
     refine rM rfl s4 <| Zo rfl (Qx Tryd.func112 Cm Cf (Yk rfl rfl) (V4 sa ((-13) : Int) _)) ?_
     rintro _ w18 ⟨rfl, rfl⟩
     refine Qb rfl (Kv rfl rfl) <| rM rfl s4 <| Zo rfl (Qx Tryd.func112 Cm Cf (Yk rfl rfl) (V4 sa ((-22) : Int) _)) ?_
     rintro _ w20 ⟨rfl, rfl⟩
     refine Qb rfl (Kv rfl rfl) <| Qb rfl (Y1 rfl rfl) <| rA rfl rfl ?_
     refine rN (Qg ?_)
     refine rM rfl s10 <| rM rfl s9 <| rM rfl s8 <| rM rfl s7 <| rM rfl s14 <| Qb rfl (Y1 rfl rfl) <| rM rfl s6 <| rM rfl s5 <| rM rfl s4 <| rM rfl s14 <| rM rfl rfl <| Qb rfl (Y1 rfl rfl) ?_
     refine Qb rfl (Qd (v := (u32 sh)) rfl) <| Qb rfl (Qd (v := (u32 sg)) rfl) <| Qb rfl (Qd (v := (u32 sf)) rfl) <| rA rfl rfl <| Qb rfl (Qd (v := (u32 sc)) rfl) <| Qb rfl (Qd (v := (u32 sz)) rfl) <| Qb rfl (Qd (v := (u32 sa)) rfl) <| rA rfl rfl ?_
     refine Zz (Qn ?_)
     refine CW.abs (fun g => g 0 = (ptr bd 0) ∧ g 1 = vb ∧ g 4 = (u32 (((((sk + ((Jy l).getD k 0)) + (F9.getD k 0)) + ((sf &&& sg) ^^^ ((~~~sf) &&& sh))) + (((Za sf ((-6) : Int)) ^^^ (Za sf ((-11) : Int))) ^^^ (Za sf ((-25) : Int)))) + ((((sa &&& sz) ^^^ (sa &&& sc)) ^^^ (sz &&& sc)) + (((Za sa ((-2) : Int)) ^^^ (Za sa ((-13) : Int))) ^^^ (Za sa ((-22) : Int)))))) ∧ g 5 = (u32 sa) ∧ g 6 = (u32 sz) ∧ g 7 = (u32 sc) ∧ g 8 = (u32 (se + ((((sk + ((Jy l).getD k 0)) + (F9.getD k 0)) + ((sf &&& sg) ^^^ ((~~~sf) &&& sh))) + (((Za sf ((-6) : Int)) ^^^ (Za sf ((-11) : Int))) ^^^ (Za sf ((-25) : Int)))))) ∧ g 9 = (u32 sf) ∧ g 10 = (u32 sg) ∧ g 11 = (u32 sh) ∧ g 12 = (i64 (k : Int)) ∧ g 13 = (u32 ((Jy l).getD k 0)) ∧ g 14 = (u32 ((((sk + ((Jy l).getD k 0)) + (F9.getD k 0)) + ((sf &&& sg) ^^^ ((~~~sf) &&& sh))) + (((Za sf ((-6) : Int)) ^^^ (Za sf ((-11) : Int))) ^^^ (Za sf ((-25) : Int))))) ∧ g 15 = (u32 ((((sa &&& sz) ^^^ (sa &&& sc)) ^^^ (sz &&& sc)) + (((Za sa ((-2) : Int)) ^^^ (Za sa ((-13) : Int))) ^^^ (Za sa ((-22) : Int))))) ∧ g 59 = (agg u32 (Jy l)) ∧ g 60 = (i64 (k : Int)) ∧ g 61 = (bl (decide ((k : Int) < 64))) ∧ True) ⟨s0, s1, rfl, rfl, rfl, rfl, rfl, rfl, rfl, rfl, s12, s13, s14, rfl, s59, s60, s61, trivial⟩ ?_
     rintro fr22 ⟨s0, s1, s4, s5, s6, s7, s8, s9, s10, s11, s12, s13, s14, s15, s59, s60, s61, _⟩
     refine Qg <| Qb rfl (Qk (b := 1) s60 rfl oM oM) <| Qb rfl (Qc (v := (i64 ((k : Int) + 1))) rfl) <| rN ?_
     have hsn : [((((sk + ((Jy l).getD k 0)) + (F9.getD k 0)) + ((sf &&& sg) ^^^ ((~~~sf) &&& sh))) + (((Za sf ((-6) : Int)) ^^^ (Za sf ((-11) : Int))) ^^^ (Za sf ((-25) : Int)))) + ((((sa &&& sz) ^^^ (sa &&& sc)) ^^^ (sz &&& sc)) + (((Za sa ((-2) : Int)) ^^^ (Za sa ((-13) : Int))) ^^^ (Za sa ((-22) : Int)))), sa, sz, sc, se + ((((sk + ((Jy l).getD k 0)) + (F9.getD k 0)) + ((sf &&& sg) ^^^ ((~~~sf) &&& sh))) + (((Za sf ((-6) : Int)) ^^^ (Za sf ((-11) : Int))) ^^^ (Za sf ((-25) : Int)))), sf, sg, sh] = Qay (Jy l) (k + 1) [x0, x1, x2, x3, x4, x5, x6, x7] := by show _ = rnd _ _ (Qay (Jy l) k [x0, x1, x2, x3, x4, x5, x6, x7]); rw [← hs]; rfl
     exact ⟨⟨k + 1, (((((sk + ((Jy l).getD k 0)) + (F9.getD k 0)) + ((sf &&& sg) ^^^ ((~~~sf) &&& sh))) + (((Za sf ((-6) : Int)) ^^^ (Za sf ((-11) : Int))) ^^^ (Za sf ((-25) : Int)))) + ((((sa &&& sz) ^^^ (sa &&& sc)) ^^^ (sz &&& sc)) + (((Za sa ((-2) : Int)) ^^^ (Za sa ((-13) : Int))) ^^^ (Za sa ((-22) : Int))))), sa, sz, sc, (se + ((((sk + ((Jy l).getD k 0)) + (F9.getD k 0)) + ((sf &&& sg) ^^^ ((~~~sf) &&& sh))) + (((Za sf ((-6) : Int)) ^^^ (Za sf ((-11) : Int))) ^^^ (Za sf ((-25) : Int))))), sf, sg, sh, oM, hsn, s0, s1, s4, s5, s6, s7, s8, s9, s10, s11, s59, rfl, hm6⟩, Fj rfl z60 oM oM⟩
   ·
     have hc7p := of_decide_eq_false hc7
     obtain rfl : k = 64 := by omega
     refine Yb ?_
     refine Zb (Zb (Xw ?_))
     refine sR <| rM rfl s4 <| rM rfl s5 <| rM rfl s6 <| rM rfl s7 <| rM rfl s8 <| rM rfl s9 <| rM rfl s10 <| rM rfl s11 <| Qb rfl (Vt u32 [sa, sz, sc, se, sf, sg, sh, sk] Xq Vw Wu Xb rfl rfl) <| Qb rfl (Qc (v := (i64 0)) rfl) ?_
     refine rN (Uo ?_)
     refine Jw 9 ?_
     refine Zu (sR ?_)
     refine Qb rfl (Qs (a := 0) (b := 8) rfl rfl) ?_
     refine rN (Qh ?_)
     refine Zf rfl (by decide) ?_
     refine Zc (Qi (Qh (Qv (sR ?_))))
     refine Qb rfl (Qc (v := (i64 0)) rfl) <| Qb (v := (u32 sa)) rfl (Yn (i := 0) Wu Yx rfl Xb rfl rfl oM sD (Zm _ _ 0 (by simp))) <| Qb rfl (Qd (v := (i64 0)) rfl) <| Qb rfl (Qd (v := (u32 sa)) rfl) <| rN ?_
     refine CW.abs (fun g => g 0 = (ptr bd 0) ∧ g 1 = vb ∧ g 4 = (u32 sa) ∧ g 5 = (u32 sz) ∧ g 6 = (u32 sc) ∧ g 7 = (u32 se) ∧ g 8 = (u32 sf) ∧ g 9 = (u32 sg) ∧ g 10 = (u32 sh) ∧ g 11 = (u32 sk) ∧ g 16 = (i64 0) ∧ g 17 = (u32 sa) ∧ g 59 = (agg u32 (Jy l)) ∧ g 60 = (i64 (64 : Int)) ∧ g 61 = (bl (decide ((64 : Int) < 64))) ∧ g 132 = (agg u32 ([sa, sz, sc, se, sf, sg, sh, sk])) ∧ g 133 = (i64 0) ∧ g 134 = (bl true) ∧ True) ⟨s0, s1, s4, s5, s6, s7, s8, s9, s10, s11, rfl, rfl, s59, s60, rfl, rfl, rfl, rfl, trivial⟩ ?_
     rintro fr23 ⟨s0, s1, s4, s5, s6, s7, s8, s9, s10, s11, s16, s17, s59, s60, s61, s132, s133, s134, _⟩
     refine Yc [(0, false), (1, false), (2, false), (3, false), (4, false), (5, false), (6, false), (7, false), (8, false), (9, false)] 10 (by kernel_rfl) <| dM rfl rfl s0 <| dM rfl rfl s16 <| Qw rfl rfl (fun _ _hx => Zv rfl) <| Qw rfl rfl (fun _ _hx => Zr (r := 0) Jk rfl (by first | rfl | omega) Vw rfl rfl) <| Qw rfl rfl (fun _ _hx => Qm (r := 0) (i := 0) oM Wu Xb rfl rfl oM oM) <| Qw (v := (u32 x0)) rfl rfl (fun _ _hx => Qy Yx rfl rfl (hm6.ext _hx).h0 rfl) <| dM rfl rfl s17 <| Qw rfl rfl (fun _ _hx => Y1 rfl rfl) <| Qw rfl rfl (fun _ _hx => Zv rfl) <| Qw rfl rfl (fun _ _hx => Zr (r := 0) Jk rfl (by first | rfl | omega) Vw rfl rfl) ?_
     refine X3 (fun w24 _ew24 => ?_)
     have hm24 := hm6.ext _ew24
     refine Qb rfl (Qm (r := 0) (i := 0) oM Wu Xb rfl rfl oM oM) <| Xf (Vu Xb rfl rfl (Xq _) hm24.h0 (by simp) (.inl (Nat.zero_le _))) ?_
     rintro _ w25 uq25
     have hm25 : Mem w25 R [(bd, .cells #[(u32 (x0 + sa)), (u32 x1), (u32 x2), (u32 x3), (u32 x4), (u32 x5), (u32 x6), (u32 x7), v, (u64 n)] 154 (0, 0))] := hm24.upd0 uq25
     refine Zz (Qn (Qg ?_))
     refine Qb (v := (i64 1)) rfl (Qk (a := 0) (b := 1) s133 rfl oM oM) <| Qb rfl (Qc (v := (i64 1)) rfl) <| rN ?_
     refine CR.abs (fun g => g 0 = (ptr bd 0) ∧ g 1 = vb ∧ g 4 = (u32 sa) ∧ g 5 = (u32 sz) ∧ g 6 = (u32 sc) ∧ g 7 = (u32 se) ∧ g 8 = (u32 sf) ∧ g 9 = (u32 sg) ∧ g 10 = (u32 sh) ∧ g 11 = (u32 sk) ∧ g 16 = (i64 0) ∧ g 17 = (u32 sa) ∧ g 59 = (agg u32 (Jy l)) ∧ g 60 = (i64 (64 : Int)) ∧ g 61 = (bl (decide ((64 : Int) < 64))) ∧ g 132 = (agg u32 ([sa, sz, sc, se, sf, sg, sh, sk])) ∧ g 133 = (i64 1) ∧ g 134 = (bl true) ∧ True) ⟨s0, s1, s4, s5, s6, s7, s8, s9, s10, s11, s16, s17, s59, s60, s61, s132, rfl, s134, trivial⟩ ?_
     rintro fr26 ⟨s0, s1, s4, s5, s6, s7, s8, s9, s10, s11, s16, s17, s59, s60, s61, s132, s133, s134, _⟩
     refine Zu (sR ?_)
     refine Qb rfl (Qs (a := 1) (b := 8) s133 rfl) ?_
     refine rN (Qh ?_)
     refine Zf rfl (by decide) ?_
     refine Zc (Qi (Qh (Qv (sR ?_))))
     refine rM rfl s133 <| Qb (v := (u32 sz)) rfl (Yn (i := 1) Wu Yx rfl Xb s132 s133 oM sD (Zm _ _ 0 (by simp))) <| Qb rfl (Qd (v := (i64 1)) rfl) <| Qb rfl (Qd (v := (u32 sz)) rfl) <| rN <| Yc [(0, false), (1, false), (2, false), (3, false), (4, false), (5, false), (6, false), (7, false), (8, false), (9, false)] 10 (by kernel_rfl) <| dM rfl rfl s0 <| Qw rfl rfl (fun _ _hx => Qc (v := (i64 1)) rfl) <| Qw rfl rfl (fun _ _hx => Zv rfl) <| Qw rfl rfl (fun _ _hx => Zr (r := 0) Jk rfl (by first | rfl | omega) Vw rfl rfl) <| Qw rfl rfl (fun _ _hx => Qm (r := 1) (i := 1) oM Wu Xb rfl rfl oM oM) <| Qw (v := (u32 x1)) rfl rfl (fun _ _hx => Qy Yx rfl rfl (hm25.ext _hx).h0 rfl) ?_
     refine Qw rfl rfl (fun _ _hx => Qc (v := (u32 sz)) rfl) <| Qw rfl rfl (fun _ _hx => Y1 rfl rfl) <| Qw rfl rfl (fun _ _hx => Zv rfl) <| Qw rfl rfl (fun _ _hx => Zr (r := 0) Jk rfl (by first | rfl | omega) Vw rfl rfl) ?_
     refine X3 (fun w27 _ew27 => ?_)
     have hm27 := hm25.ext _ew27
     refine Qb rfl (Qm (r := 1) (i := 1) oM Wu Xb rfl rfl oM oM) <| Xf (Vu Xb rfl rfl (Xq _) hm27.h0 (by simp) (.inl (Nat.zero_le _))) ?_
     rintro _ w28 uq28
     have hm28 : Mem w28 R [(bd, .cells #[(u32 (x0 + sa)), (u32 (x1 + sz)), (u32 x2), (u32 x3), (u32 x4), (u32 x5), (u32 x6), (u32 x7), v, (u64 n)] 154 (0, 0))] := hm27.upd0 uq28
     refine Zz (Qn ?_)
     refine CW.abs (fun g => g 0 = (ptr bd 0) ∧ g 1 = vb ∧ g 4 = (u32 sa) ∧ g 5 = (u32 sz) ∧ g 6 = (u32 sc) ∧ g 7 = (u32 se) ∧ g 8 = (u32 sf) ∧ g 9 = (u32 sg) ∧ g 10 = (u32 sh) ∧ g 11 = (u32 sk) ∧ g 16 = (i64 1) ∧ g 17 = (u32 sz) ∧ g 59 = (agg u32 (Jy l)) ∧ g 60 = (i64 (64 : Int)) ∧ g 61 = (bl (decide ((64 : Int) < 64))) ∧ g 132 = (agg u32 ([sa, sz, sc, se, sf, sg, sh, sk])) ∧ g 133 = (i64 1) ∧ g 134 = (bl true) ∧ True) ⟨s0, s1, s4, s5, s6, s7, s8, s9, s10, s11, rfl, rfl, s59, s60, s61, s132, s133, rfl, trivial⟩ ?_
     rintro fr29 ⟨s0, s1, s4, s5, s6, s7, s8, s9, s10, s11, s16, s17, s59, s60, s61, s132, s133, s134, _⟩
     refine Qg <| Qb (v := (i64 2)) rfl (Qk (a := 1) (b := 1) s133 rfl oM oM) <| Qb rfl (Qc (v := (i64 2)) rfl) ?_
     refine rN (Zu (sR ?_))
     refine Qb rfl (Qs (a := 2) (b := 8) rfl rfl) ?_
     refine rN (Qh ?_)
     refine Zf rfl (by decide) ?_
     refine Zc (Qi (Qh (Qv (sR ?_))))
     refine Qb rfl (Qc (v := (i64 2)) rfl) <| Qb (v := (u32 sc)) rfl (Yn (i := 2) Wu Yx rfl Xb s132 rfl oM sD (Zm _ _ 0 (by simp))) <| Qb rfl (Qd (v := (i64 2)) rfl) <| Qb rfl (Qd (v := (u32 sc)) rfl) <| rN <| Yc [(0, false), (1, false), (2, false), (3, false), (4, false), (5, false), (6, false), (7, false), (8, false), (9, false)] 10 (by kernel_rfl) <| dM rfl rfl s0 <| Qw rfl rfl (fun _ _hx => Qc (v := (i64 2)) rfl) <| Qw rfl rfl (fun _ _hx => Zv rfl) <| Qw rfl rfl (fun _ _hx => Zr (r := 0) Jk rfl (by first | rfl | omega) Vw rfl rfl) <| Qw rfl rfl (fun _ _hx => Qm (r := 2) (i := 2) oM Wu Xb rfl rfl oM oM) <| Qw (v := (u32 x2)) rfl rfl (fun _ _hx => Qy Yx rfl rfl (hm28.ext _hx).h0 rfl) ?_
     refine Qw rfl rfl (fun _ _hx => Qc (v := (u32 sc)) rfl) <| Qw rfl rfl (fun _ _hx => Y1 rfl rfl) <| Qw rfl rfl (fun _ _hx => Zv rfl) <| Qw rfl rfl (fun _ _hx => Zr (r := 0) Jk rfl (by first | rfl | omega) Vw rfl rfl) ?_
     refine X3 (fun w30 _ew30 => ?_)
     have hm30 := hm28.ext _ew30
     refine Qb rfl (Qm (r := 2) (i := 2) oM Wu Xb rfl rfl oM oM) <| Xf (Vu Xb rfl rfl (Xq _) hm30.h0 (by simp) (.inl (Nat.zero_le _))) ?_
     rintro _ w31 uq31
     have hm31 : Mem w31 R [(bd, .cells #[(u32 (x0 + sa)), (u32 (x1 + sz)), (u32 (x2 + sc)), (u32 x3), (u32 x4), (u32 x5), (u32 x6), (u32 x7), v, (u64 n)] 154 (0, 0))] := hm30.upd0 uq31
     refine Zz (Qn ?_)
     refine CW.abs (fun g => g 0 = (ptr bd 0) ∧ g 1 = vb ∧ g 4 = (u32 sa) ∧ g 5 = (u32 sz) ∧ g 6 = (u32 sc) ∧ g 7 = (u32 se) ∧ g 8 = (u32 sf) ∧ g 9 = (u32 sg) ∧ g 10 = (u32 sh) ∧ g 11 = (u32 sk) ∧ g 16 = (i64 2) ∧ g 17 = (u32 sc) ∧ g 59 = (agg u32 (Jy l)) ∧ g 60 = (i64 (64 : Int)) ∧ g 61 = (bl (decide ((64 : Int) < 64))) ∧ g 132 = (agg u32 ([sa, sz, sc, se, sf, sg, sh, sk])) ∧ g 133 = (i64 2) ∧ g 134 = (bl true) ∧ True) ⟨s0, s1, s4, s5, s6, s7, s8, s9, s10, s11, rfl, rfl, s59, s60, s61, s132, rfl, rfl, trivial⟩ ?_
     rintro fr32 ⟨s0, s1, s4, s5, s6, s7, s8, s9, s10, s11, s16, s17, s59, s60, s61, s132, s133, s134, _⟩
     refine Qg <| Qb (v := (i64 3)) rfl (Qk (a := 2) (b := 1) s133 rfl oM oM) <| Qb rfl (Qc (v := (i64 3)) rfl) ?_
     refine rN (Zu (sR ?_))
     refine Qb rfl (Qs (a := 3) (b := 8) rfl rfl) ?_
     refine rN (Qh ?_)
     refine Zf rfl (by decide) ?_
     refine Zc (Qi (Qh (Qv (sR ?_))))
     refine Qb rfl (Qc (v := (i64 3)) rfl) <| Qb (v := (u32 se)) rfl (Yn (i := 3) Wu Yx rfl Xb s132 rfl oM sD (Zm _ _ 0 (by simp))) <| Qb rfl (Qd (v := (i64 3)) rfl) <| Qb rfl (Qd (v := (u32 se)) rfl) <| rN <| Yc [(0, false), (1, false), (2, false), (3, false), (4, false), (5, false), (6, false), (7, false), (8, false), (9, false)] 10 (by kernel_rfl) <| dM rfl rfl s0 <| Qw rfl rfl (fun _ _hx => Qc (v := (i64 3)) rfl) <| Qw rfl rfl (fun _ _hx => Zv rfl) <| Qw rfl rfl (fun _ _hx => Zr (r := 0) Jk rfl (by first | rfl | omega) Vw rfl rfl) <| Qw rfl rfl (fun _ _hx => Qm (r := 3) (i := 3) oM Wu Xb rfl rfl oM oM) <| Qw (v := (u32 x3)) rfl rfl (fun _ _hx => Qy Yx rfl rfl (hm31.ext _hx).h0 rfl) ?_
     refine Qw rfl rfl (fun _ _hx => Qc (v := (u32 se)) rfl) <| Qw rfl rfl (fun _ _hx => Y1 rfl rfl) <| Qw rfl rfl (fun _ _hx => Zv rfl) <| Qw rfl rfl (fun _ _hx => Zr (r := 0) Jk rfl (by first | rfl | omega) Vw rfl rfl) ?_
     refine X3 (fun w33 _ew33 => ?_)
     have hm33 := hm31.ext _ew33
     refine Qb rfl (Qm (r := 3) (i := 3) oM Wu Xb rfl rfl oM oM) <| Xf (Vu Xb rfl rfl (Xq _) hm33.h0 (by simp) (.inl (Nat.zero_le _))) ?_
     rintro _ w34 uq34
     have hm34 : Mem w34 R [(bd, .cells #[(u32 (x0 + sa)), (u32 (x1 + sz)), (u32 (x2 + sc)), (u32 (x3 + se)), (u32 x4), (u32 x5), (u32 x6), (u32 x7), v, (u64 n)] 154 (0, 0))] := hm33.upd0 uq34
     refine Zz (Qn ?_)
     refine CW.abs (fun g => g 0 = (ptr bd 0) ∧ g 1 = vb ∧ g 4 = (u32 sa) ∧ g 5 = (u32 sz) ∧ g 6 = (u32 sc) ∧ g 7 = (u32 se) ∧ g 8 = (u32 sf) ∧ g 9 = (u32 sg) ∧ g 10 = (u32 sh) ∧ g 11 = (u32 sk) ∧ g 16 = (i64 3) ∧ g 17 = (u32 se) ∧ g 59 = (agg u32 (Jy l)) ∧ g 60 = (i64 (64 : Int)) ∧ g 61 = (bl (decide ((64 : Int) < 64))) ∧ g 132 = (agg u32 ([sa, sz, sc, se, sf, sg, sh, sk])) ∧ g 133 = (i64 3) ∧ g 134 = (bl true) ∧ True) ⟨s0, s1, s4, s5, s6, s7, s8, s9, s10, s11, rfl, rfl, s59, s60, s61, s132, rfl, rfl, trivial⟩ ?_
     rintro fr35 ⟨s0, s1, s4, s5, s6, s7, s8, s9, s10, s11, s16, s17, s59, s60, s61, s132, s133, s134, _⟩
     refine Qg <| Qb (v := (i64 4)) rfl (Qk (a := 3) (b := 1) s133 rfl oM oM) <| Qb rfl (Qc (v := (i64 4)) rfl) ?_
     refine rN (Zu (sR ?_))
     refine Qb rfl (Qs (a := 4) (b := 8) rfl rfl) ?_
     refine rN (Qh ?_)
     refine Zf rfl (by decide) ?_
     refine Zc (Qi (Qh (Qv (sR ?_))))
     refine Qb rfl (Qc (v := (i64 4)) rfl) <| Qb (v := (u32 sf)) rfl (Yn (i := 4) Wu Yx rfl Xb s132 rfl oM sD (Zm _ _ 0 (by simp))) <| Qb rfl (Qd (v := (i64 4)) rfl) <| Qb rfl (Qd (v := (u32 sf)) rfl) <| rN <| Yc [(0, false), (1, false), (2, false), (3, false), (4, false), (5, false), (6, false), (7, false), (8, false), (9, false)] 10 (by kernel_rfl) <| dM rfl rfl s0 <| Qw rfl rfl (fun _ _hx => Qc (v := (i64 4)) rfl) <| Qw rfl rfl (fun _ _hx => Zv rfl) <| Qw rfl rfl (fun _ _hx => Zr (r := 0) Jk rfl (by first | rfl | omega) Vw rfl rfl) <| Qw rfl rfl (fun _ _hx => Qm (r := 4) (i := 4) oM Wu Xb rfl rfl oM oM) <| Qw (v := (u32 x4)) rfl rfl (fun _ _hx => Qy Yx rfl rfl (hm34.ext _hx).h0 rfl) ?_
     refine Qw rfl rfl (fun _ _hx => Qc (v := (u32 sf)) rfl) <| Qw rfl rfl (fun _ _hx => Y1 rfl rfl) <| Qw rfl rfl (fun _ _hx => Zv rfl) <| Qw rfl rfl (fun _ _hx => Zr (r := 0) Jk rfl (by first | rfl | omega) Vw rfl rfl) ?_
     refine X3 (fun w36 _ew36 => ?_)
     have hm36 := hm34.ext _ew36
     refine Qb rfl (Qm (r := 4) (i := 4) oM Wu Xb rfl rfl oM oM) <| Xf (Vu Xb rfl rfl (Xq _) hm36.h0 (by simp) (.inl (Nat.zero_le _))) ?_
     rintro _ w37 uq37
     have hm37 : Mem w37 R [(bd, .cells #[(u32 (x0 + sa)), (u32 (x1 + sz)), (u32 (x2 + sc)), (u32 (x3 + se)), (u32 (x4 + sf)), (u32 x5), (u32 x6), (u32 x7), v, (u64 n)] 154 (0, 0))] := hm36.upd0 uq37
     refine Zz (Qn ?_)
     refine CW.abs (fun g => g 0 = (ptr bd 0) ∧ g 1 = vb ∧ g 4 = (u32 sa) ∧ g 5 = (u32 sz) ∧ g 6 = (u32 sc) ∧ g 7 = (u32 se) ∧ g 8 = (u32 sf) ∧ g 9 = (u32 sg) ∧ g 10 = (u32 sh) ∧ g 11 = (u32 sk) ∧ g 16 = (i64 4) ∧ g 17 = (u32 sf) ∧ g 59 = (agg u32 (Jy l)) ∧ g 60 = (i64 (64 : Int)) ∧ g 61 = (bl (decide ((64 : Int) < 64))) ∧ g 132 = (agg u32 ([sa, sz, sc, se, sf, sg, sh, sk])) ∧ g 133 = (i64 4) ∧ g 134 = (bl true) ∧ True) ⟨s0, s1, s4, s5, s6, s7, s8, s9, s10, s11, rfl, rfl, s59, s60, s61, s132, rfl, rfl, trivial⟩ ?_
     rintro fr38 ⟨s0, s1, s4, s5, s6, s7, s8, s9, s10, s11, s16, s17, s59, s60, s61, s132, s133, s134, _⟩
     refine Qg <| Qb (v := (i64 5)) rfl (Qk (a := 4) (b := 1) s133 rfl oM oM) <| Qb rfl (Qc (v := (i64 5)) rfl) ?_
     refine rN (Zu (sR ?_))
     refine Qb rfl (Qs (a := 5) (b := 8) rfl rfl) ?_
     refine rN (Qh ?_)
     refine Zf rfl (by decide) ?_
     refine Zc (Qi (Qh (Qv (sR ?_))))
     refine Qb rfl (Qc (v := (i64 5)) rfl) <| Qb (v := (u32 sg)) rfl (Yn (i := 5) Wu Yx rfl Xb s132 rfl oM sD (Zm _ _ 0 (by simp))) <| Qb rfl (Qd (v := (i64 5)) rfl) <| Qb rfl (Qd (v := (u32 sg)) rfl) <| rN <| Yc [(0, false), (1, false), (2, false), (3, false), (4, false), (5, false), (6, false), (7, false), (8, false), (9, false)] 10 (by kernel_rfl) <| dM rfl rfl s0 <| Qw rfl rfl (fun _ _hx => Qc (v := (i64 5)) rfl) <| Qw rfl rfl (fun _ _hx => Zv rfl) <| Qw rfl rfl (fun _ _hx => Zr (r := 0) Jk rfl (by first | rfl | omega) Vw rfl rfl) <| Qw rfl rfl (fun _ _hx => Qm (r := 5) (i := 5) oM Wu Xb rfl rfl oM oM) <| Qw (v := (u32 x5)) rfl rfl (fun _ _hx => Qy Yx rfl rfl (hm37.ext _hx).h0 rfl) ?_
     refine Qw rfl rfl (fun _ _hx => Qc (v := (u32 sg)) rfl) <| Qw rfl rfl (fun _ _hx => Y1 rfl rfl) <| Qw rfl rfl (fun _ _hx => Zv rfl) <| Qw rfl rfl (fun _ _hx => Zr (r := 0) Jk rfl (by first | rfl | omega) Vw rfl rfl) ?_
     refine X3 (fun w39 _ew39 => ?_)
     have hm39 := hm37.ext _ew39
     refine Qb rfl (Qm (r := 5) (i := 5) oM Wu Xb rfl rfl oM oM) <| Xf (Vu Xb rfl rfl (Xq _) hm39.h0 (by simp) (.inl (Nat.zero_le _))) ?_
     rintro _ w40 uq40
     have hm40 : Mem w40 R [(bd, .cells #[(u32 (x0 + sa)), (u32 (x1 + sz)), (u32 (x2 + sc)), (u32 (x3 + se)), (u32 (x4 + sf)), (u32 (x5 + sg)), (u32 x6), (u32 x7), v, (u64 n)] 154 (0, 0))] := hm39.upd0 uq40
     refine Zz (Qn ?_)
     refine CW.abs (fun g => g 0 = (ptr bd 0) ∧ g 1 = vb ∧ g 4 = (u32 sa) ∧ g 5 = (u32 sz) ∧ g 6 = (u32 sc) ∧ g 7 = (u32 se) ∧ g 8 = (u32 sf) ∧ g 9 = (u32 sg) ∧ g 10 = (u32 sh) ∧ g 11 = (u32 sk) ∧ g 16 = (i64 5) ∧ g 17 = (u32 sg) ∧ g 59 = (agg u32 (Jy l)) ∧ g 60 = (i64 (64 : Int)) ∧ g 61 = (bl (decide ((64 : Int) < 64))) ∧ g 132 = (agg u32 ([sa, sz, sc, se, sf, sg, sh, sk])) ∧ g 133 = (i64 5) ∧ g 134 = (bl true) ∧ True) ⟨s0, s1, s4, s5, s6, s7, s8, s9, s10, s11, rfl, rfl, s59, s60, s61, s132, rfl, rfl, trivial⟩ ?_
     rintro fr41 ⟨s0, s1, s4, s5, s6, s7, s8, s9, s10, s11, s16, s17, s59, s60, s61, s132, s133, s134, _⟩
     refine Qg <| Qb (v := (i64 6)) rfl (Qk (a := 5) (b := 1) s133 rfl oM oM) <| Qb rfl (Qc (v := (i64 6)) rfl) ?_
     refine rN (Zu (sR ?_))
     refine Qb rfl (Qs (a := 6) (b := 8) rfl rfl) ?_
     refine rN (Qh ?_)
     refine Zf rfl (by decide) ?_
     refine Zc (Qi (Qh (Qv (sR ?_))))
     refine Qb rfl (Qc (v := (i64 6)) rfl) <| Qb (v := (u32 sh)) rfl (Yn (i := 6) Wu Yx rfl Xb s132 rfl oM sD (Zm _ _ 0 (by simp))) <| Qb rfl (Qd (v := (i64 6)) rfl) <| Qb rfl (Qd (v := (u32 sh)) rfl) <| rN <| Yc [(0, false), (1, false), (2, false), (3, false), (4, false), (5, false), (6, false), (7, false), (8, false), (9, false)] 10 (by kernel_rfl) <| dM rfl rfl s0 <| Qw rfl rfl (fun _ _hx => Qc (v := (i64 6)) rfl) <| Qw rfl rfl (fun _ _hx => Zv rfl) <| Qw rfl rfl (fun _ _hx => Zr (r := 0) Jk rfl (by first | rfl | omega) Vw rfl rfl) <| Qw rfl rfl (fun _ _hx => Qm (r := 6) (i := 6) oM Wu Xb rfl rfl oM oM) <| Qw (v := (u32 x6)) rfl rfl (fun _ _hx => Qy Yx rfl rfl (hm40.ext _hx).h0 rfl) ?_
     refine Qw rfl rfl (fun _ _hx => Qc (v := (u32 sh)) rfl) <| Qw rfl rfl (fun _ _hx => Y1 rfl rfl) <| Qw rfl rfl (fun _ _hx => Zv rfl) <| Qw rfl rfl (fun _ _hx => Zr (r := 0) Jk rfl (by first | rfl | omega) Vw rfl rfl) ?_
     refine X3 (fun w42 _ew42 => ?_)
     have hm42 := hm40.ext _ew42
     refine Qb rfl (Qm (r := 6) (i := 6) oM Wu Xb rfl rfl oM oM) <| Xf (Vu Xb rfl rfl (Xq _) hm42.h0 (by simp) (.inl (Nat.zero_le _))) ?_
     rintro _ w43 uq43
     have hm43 : Mem w43 R [(bd, .cells #[(u32 (x0 + sa)), (u32 (x1 + sz)), (u32 (x2 + sc)), (u32 (x3 + se)), (u32 (x4 + sf)), (u32 (x5 + sg)), (u32 (x6 + sh)), (u32 x7), v, (u64 n)] 154 (0, 0))] := hm42.upd0 uq43
     refine Zz (Qn ?_)
     refine CW.abs (fun g => g 0 = (ptr bd 0) ∧ g 1 = vb ∧ g 4 = (u32 sa) ∧ g 5 = (u32 sz) ∧ g 6 = (u32 sc) ∧ g 7 = (u32 se) ∧ g 8 = (u32 sf) ∧ g 9 = (u32 sg) ∧ g 10 = (u32 sh) ∧ g 11 = (u32 sk) ∧ g 16 = (i64 6) ∧ g 17 = (u32 sh) ∧ g 59 = (agg u32 (Jy l)) ∧ g 60 = (i64 (64 : Int)) ∧ g 61 = (bl (decide ((64 : Int) < 64))) ∧ g 132 = (agg u32 ([sa, sz, sc, se, sf, sg, sh, sk])) ∧ g 133 = (i64 6) ∧ g 134 = (bl true) ∧ True) ⟨s0, s1, s4, s5, s6, s7, s8, s9, s10, s11, rfl, rfl, s59, s60, s61, s132, rfl, rfl, trivial⟩ ?_
     rintro fr44 ⟨s0, s1, s4, s5, s6, s7, s8, s9, s10, s11, s16, s17, s59, s60, s61, s132, s133, s134, _⟩
     refine Qg <| Qb (v := (i64 7)) rfl (Qk (a := 6) (b := 1) s133 rfl oM oM) <| Qb rfl (Qc (v := (i64 7)) rfl) ?_
     refine rN (Zu (sR ?_))
     refine Qb rfl (Qs (a := 7) (b := 8) rfl rfl) ?_
     refine rN (Qh ?_)
     refine Zf rfl (by decide) ?_
     refine Zc (Qi (Qh (Qv (sR ?_))))
     refine Qb rfl (Qc (v := (i64 7)) rfl) <| Qb (v := (u32 sk)) rfl (Yn (i := 7) Wu Yx rfl Xb s132 rfl oM sD (Zm _ _ 0 (by simp))) <| Qb rfl (Qd (v := (i64 7)) rfl) <| Qb rfl (Qd (v := (u32 sk)) rfl) <| rN <| Yc [(0, false), (1, false), (2, false), (3, false), (4, false), (5, false), (6, false), (7, false), (8, false), (9, false)] 10 (by kernel_rfl) <| dM rfl rfl s0 <| Qw rfl rfl (fun _ _hx => Qc (v := (i64 7)) rfl) <| Qw rfl rfl (fun _ _hx => Zv rfl) <| Qw rfl rfl (fun _ _hx => Zr (r := 0) Jk rfl (by first | rfl | omega) Vw rfl rfl) <| Qw rfl rfl (fun _ _hx => Qm (r := 7) (i := 7) oM Wu Xb rfl rfl oM oM) <| Qw (v := (u32 x7)) rfl rfl (fun _ _hx => Qy Yx rfl rfl (hm43.ext _hx).h0 rfl) ?_
     refine Qw rfl rfl (fun _ _hx => Qc (v := (u32 sk)) rfl) <| Qw rfl rfl (fun _ _hx => Y1 rfl rfl) <| Qw rfl rfl (fun _ _hx => Zv rfl) <| Qw rfl rfl (fun _ _hx => Zr (r := 0) Jk rfl (by first | rfl | omega) Vw rfl rfl) ?_
     refine X3 (fun w45 _ew45 => ?_)
     have hm45 := hm43.ext _ew45
     refine Qb rfl (Qm (r := 7) (i := 7) oM Wu Xb rfl rfl oM oM) <| Xf (Vu Xb rfl rfl (Xq _) hm45.h0 (by simp) (.inl (Nat.zero_le _))) ?_
     rintro _ w46 uq46
     have hm46 : Mem w46 R [(bd, .cells #[(u32 (x0 + sa)), (u32 (x1 + sz)), (u32 (x2 + sc)), (u32 (x3 + se)), (u32 (x4 + sf)), (u32 (x5 + sg)), (u32 (x6 + sh)), (u32 (x7 + sk)), v, (u64 n)] 154 (0, 0))] := hm45.upd0 uq46
     refine Zz (Qn ?_)
     refine CW.abs (fun g => g 0 = (ptr bd 0) ∧ g 1 = vb ∧ g 4 = (u32 sa) ∧ g 5 = (u32 sz) ∧ g 6 = (u32 sc) ∧ g 7 = (u32 se) ∧ g 8 = (u32 sf) ∧ g 9 = (u32 sg) ∧ g 10 = (u32 sh) ∧ g 11 = (u32 sk) ∧ g 16 = (i64 7) ∧ g 17 = (u32 sk) ∧ g 59 = (agg u32 (Jy l)) ∧ g 60 = (i64 (64 : Int)) ∧ g 61 = (bl (decide ((64 : Int) < 64))) ∧ g 132 = (agg u32 ([sa, sz, sc, se, sf, sg, sh, sk])) ∧ g 133 = (i64 7) ∧ g 134 = (bl true) ∧ True) ⟨s0, s1, s4, s5, s6, s7, s8, s9, s10, s11, rfl, rfl, s59, s60, s61, s132, rfl, rfl, trivial⟩ ?_
     rintro fr47 ⟨s0, s1, s4, s5, s6, s7, s8, s9, s10, s11, s16, s17, s59, s60, s61, s132, s133, s134, _⟩
     refine Qg <| Qb (v := (i64 8)) rfl (Qk (a := 7) (b := 1) s133 rfl oM oM) <| Qb rfl (Qc (v := (i64 8)) rfl) ?_
     refine rN (Zu (sR ?_))
     refine Qb rfl (Qs (a := 8) (b := 8) rfl rfl) ?_
     refine rN (Qh ?_)
     refine Yt rfl (by decide) <| Yb ?_
     refine Zb (Zb (Xw ?_))
     refine Ej [] trivial ?_
     exact ⟨_, _, _, _, _, _, _, _, by rw [Qdl, ← hs]; rfl, hm46⟩
end Go.Proofs.YtkmiemlpfkfiiaaDoor
