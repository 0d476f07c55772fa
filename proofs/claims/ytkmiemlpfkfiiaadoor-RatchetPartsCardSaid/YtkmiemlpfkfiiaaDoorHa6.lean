/- Contracts: the document's hash. Conditions: none beyond those that each theorem states. -/
import Derived.Test.YtkmiemlpfkfiiaaDoorHa5
namespace Go.Proofs.YtkmiemlpfkfiiaaDoor
open Tryd
set_option linter.unusedVariables false
set_option linter.unusedSimpArgs false
def Je (x : BitVec 32) (n : Int) : BitVec 32 := x >>> n.toNat ||| x <<< (32 - n).toNat
theorem shl8_add (x : BitVec 32) (y : BitVec 8) : x * 256#32 + y.setWidth 32 = x <<< 8 ||| y.setWidth 32 := by
 have e : x <<< 8 = x * 256#32 := by rw [BitVec.shiftLeft_eq_mul_twoPow]; rfl
 rw [← e]
 refine BitVec.add_eq_or_of_and_eq_zero _ _ ?_
 apply BitVec.eq_of_getLsbD_eq
 intro i hi
 simp only [BitVec.getLsbD_and, BitVec.getLsbD_shiftLeft, BitVec.getLsbD_setWidth, BitVec.getLsbD_zero]
 by_cases h : i < 8
 ·simp [h]
 rw [BitVec.getLsbD_of_ge y i oM]; simp
theorem rr (x : BitVec 32) : Je x 2 = Zd x (-2) ∧ Je x 6 = Zd x (-6) ∧ Je x 7 = Zd x (-7) ∧ Je x 11 = Zd x (-11) ∧ Je x 13 = Zd x (-13) ∧ Je x 17 = Zd x (-17) ∧ Je x 18 = Zd x (-18) ∧ Je x 19 = Zd x (-19) ∧ Je x 22 = Zd x (-22) ∧ Je x 25 = Zd x (-25) := by
 refine ⟨?_, ?_, ?_, ?_, ?_, ?_, ?_, ?_, ?_, ?_⟩ <;> (unfold Je Zd; rw [BitVec.or_comm]; rfl)
theorem Qlr (l : Xg) (k : Nat) (h : k < 16) (a b c d : BitVec 8) (ha : a = l.getD (4 * k) 0) (hb : b = l.getD (4 * k + 1) 0) (hc : c = l.getD (4 * k + 2) 0) (hd : d = l.getD (4 * k + 3) 0) (w : List (BitVec 32)) (hw : w = Vb l k) :
  (((w.set k (w.getD k 0 * 256#32 + a.setWidth 32)).set k ((w.set k (w.getD k 0 * 256#32 + a.setWidth 32)).getD k 0 * 256#32 + b.setWidth 32)).set k
   (((w.set k (w.getD k 0 * 256#32 + a.setWidth 32)).set k ((w.set k (w.getD k 0 * 256#32 + a.setWidth 32)).getD k 0 * 256#32 + b.setWidth 32)).getD k 0 * 256#32 + c.setWidth 32)).set k
   ((((w.set k (w.getD k 0 * 256#32 + a.setWidth 32)).set k ((w.set k (w.getD k 0 * 256#32 + a.setWidth 32)).getD k 0 * 256#32 + b.setWidth 32)).set k
   (((w.set k (w.getD k 0 * 256#32 + a.setWidth 32)).set k ((w.set k (w.getD k 0 * 256#32 + a.setWidth 32)).getD k 0 * 256#32 + b.setWidth 32)).getD k 0 * 256#32 + c.setWidth 32)).getD k 0 * 256#32 + d.setWidth 32) = Vb l (k + 1) := by
 simp only [shl8_add]
 exact Qg5 l k h a b c d ha hb hc hd w hw
theorem Qm2 (l : Xg) (k : Nat) (h : ¬ k < 16) (h2 : k < 64) (w : List (BitVec 32)) (hw : w = Vb l k) :
  w.set k (((((Je (w.getD (k - 2) 0) 17 ^^^ Je (w.getD (k - 2) 0) 19) ^^^ (w.getD (k - 2) 0) >>> 10) + w.getD (k - 7) 0) + ((Je (w.getD (k - 15) 0) 7 ^^^ Je (w.getD (k - 15) 0) 18) ^^^ (w.getD (k - 15) 0) >>> 3)) + w.getD (k - 16) 0) = Vb l (k + 1) := by
 subst hw
 simp only [Vb]
 congr 1
 unfold Qdl
 rw [if_neg h]
 simp only [rr]
 ac_rfl
theorem rndR (w t a z c e f g h k : BitVec 32) :
  [((((k + ((Je f 6 ^^^ Je f 11) ^^^ Je f 25)) + ((f &&& g) ^^^ (~~~f &&& h))) + t) + w) + (((Je a 2 ^^^ Je a 13) ^^^ Je a 22) + (((a &&& z) ^^^ (a &&& c)) ^^^ (z &&& c))), a, z, c,
   e + ((((k + ((Je f 6 ^^^ Je f 11) ^^^ Je f 25)) + ((f &&& g) ^^^ (~~~f &&& h))) + t) + w), f, g, h] = rnd w t [a, z, c, e, f, g, h, k] := by
 simp only [rnd, rr]
 have e1 : ((((k + ((Zd f (-6) ^^^ Zd f (-11)) ^^^ Zd f (-25))) + ((f &&& g) ^^^ (~~~f &&& h))) + t) + w) = ((((k + w) + t) + ((f &&& g) ^^^ (~~~f &&& h))) + ((Zd f (-6) ^^^ Zd f (-11)) ^^^ Zd f (-25))) := by ac_rfl
 have e2 : (((Zd a (-2) ^^^ Zd a (-13)) ^^^ Zd a (-22)) + (((a &&& z) ^^^ (a &&& c)) ^^^ (z &&& c))) = ((((a &&& z) ^^^ (a &&& c)) ^^^ (z &&& c)) + ((Zd a (-2) ^^^ Zd a (-13)) ^^^ Zd a (-22))) := by ac_rfl
 rw [e1, e2]
theorem sum_flat (l : Xg) : U4 l = Qch (hAt Qb2 (l ++ padP (0#64 + BitVec.ofInt 64 (l.length : Int)) (l.length % 64)) ((l ++ padP (0#64 + BitVec.ofInt 64 (l.length : Int)) (l.length % 64)).length / 64)) := by
 unfold U4 Df
 have e : (l.drop (64 * (l.length / 64))).length = l.length % 64 := by simp; omega
 rw [e]
 generalize padP (0#64 + BitVec.ofInt 64 (l.length : Int)) (l.length % 64) = p
 congr 1
 have e0 : l.drop (64 * (l.length / 64)) ++ p = (l ++ p).drop (64 * (l.length / 64)) := by rw [List.drop_append_of_le_length oM]
 have e2 : l.length / 64 + (l.drop (64 * (l.length / 64)) ++ p).length / 64 = (l ++ p).length / 64 := by simp; omega
 rw [← e2, ← Qnr Qb2 l p (l.length / 64) oM, e0, Qqm]
def padR (n : BitVec 64) (z : Nat) : Xg := 128#8 :: (List.replicate z 0#8 ++ [(n >>> 56).setWidth 8, (n >>> 48).setWidth 8, (n >>> 40).setWidth 8, (n >>> 32).setWidth 8, (n >>> 24).setWidth 8, (n >>> 16).setWidth 8, (n >>> 8).setWidth 8, (n >>> 0).setWidth 8])
theorem pad_same (l : Xg) : padR (BitVec.ofInt 64 (l.length : Int) * 8#64) ((119 - l.length % 64) % 64) = padP (0#64 + BitVec.ofInt 64 (l.length : Int)) (l.length % 64) := by
 unfold padR padP lenB
 have e : ∀ x : BitVec 64, x * 8#64 = (0#64 + x) <<< 3 := fun x => by rw [BitVec.zero_add, BitVec.shiftLeft_eq_mul_twoPow]; rfl
 rw [e]
theorem Qfl (M : Xg) (m i : Nat) (h : i < 64) (hm : 64 * m + 64 ≤ M.length) : M.getD (64 * m + i) 0 = ((M.drop (64 * m)).take 64).getD i 0 := by
 simp only [List.getD_eq_getElem?_getD, List.getElem?_take, if_pos h, List.getElem?_drop]
theorem hAt_zero (h : List (BitVec 32)) (l : Xg) : hAt h l 0 = h := rfl
theorem hAt_succ (h : List (BitVec 32)) (l : Xg) (m : Nat) : hAt h l (m + 1) = Qg2 (hAt h l m) ((l.drop (64 * m)).take 64) := rfl
theorem Qls (l : Xg) : Vb l 0 = List.replicate 64 0 := rfl
theorem Qm7 (wl s : List (BitVec 32)) : Qak wl 0 s = s := rfl
theorem Qm8 (wl s : List (BitVec 32)) (k : Nat) : Qak wl (k + 1) s = rnd (wl.getD k 0) (Eb.getD k 0) (Qak wl k s) := rfl
theorem Qm1 (l : Xg) (i : Nat) : ∀ k, i < k → (Vb l k).getD i 0 = (Vb l (i + 1)).getD i 0 := by
 intro k
 induction k with
 | zero => intro h; omega
 | succ k ih =>
  intro h
  rcases Nat.lt_or_ge i k with h1 | h1
  ·rw [← ih h1]
   simp only [Vb, List.getD_eq_getElem?_getD, List.getElem?_set]
   rw [if_neg oM]
  have : i = k := by omega
  subst this; rfl
theorem Qm0 (l : Xg) (i : Nat) (h : i < 64) : (Vb l (i + 1)).getD i 0 = (Dk l).getD i 0 := (Qm1 l i 64 h).symm
attribute [local irreducible] U4 hAt Qg2 Dk Qak Vb rnd
theorem Lh (x : BitVec 32) (k : Int) (w0 : World)  (h0 : 0 ≤ k) (h1 : k ≤ 32) : X9 prog 106 #[(u32 x), (i64 k)] w0 (fun r w1 => r = (u32 (Je x k)) ∧ Ext w0 w1) := by
 refine Zb (args := [(u32 x), (i64 k)]) func106 rfl ntmps106 results106 rfl ?_
 have m0 : Mem w0 (Qu w0) [] := Mem.of_world w0
 refine sR <| Zz (u32 0#32) ?_
 refine rN (Qa ?_)
 refine Xl (dl 7) 7 Xw <| Ky rfl (u32 x) <| Ky rfl (i64 k) <| Yb rfl (Us rfl rfl oM) <| Ky rfl (u32 x) <| Ky rfl (i64 k) <| Yb rfl (Yk (a := 32) rfl rfl oM oM) <| Yb rfl (Fv rfl rfl oM) <| Gs m0 fun w1 m1 => Qd (Du rfl rfl) <| Zz (u32 ((x >>> k.toNat) ||| (x <<< (32 - k).toNat))) ?_
 refine rN (Xb ?_)
 refine Qv [(u32 ((x >>> k.toNat) ||| (x <<< (32 - k).toNat)))] ⟨rfl, trivial⟩ ?_
 exact ⟨rfl, m1.toExt⟩
theorem c_table  (w0 : World)   : X9 prog 105 #[] w0 (fun r w1 => r = (agg u32 Eb) ∧ Ext w0 w1) := by
 refine Zb (args := []) func105 rfl ntmps105 results105 rfl ?_
 have m0 : Mem w0 (Qu w0) [] := Mem.of_world w0
 refine sR <| Y9 (Zc m0 Qbl) fun w1 b0 m1 => ?_
 refine rN (sR ?_)
 refine Qd (Gq u32 [1116352408#32, 1899447441#32, 3049323471#32, 3921009573#32, 961987163#32, 1508970993#32, 2453635748#32, 2870763221#32, 3624381080#32, 310598401#32, 607225278#32, 1426881987#32, 1925078388#32, 2162078206#32, 2614888103#32, 3248222580#32, 3835390401#32, 4022224774#32, 264347078#32, 604807628#32, 770255983#32, 1249150122#32, 1555081692#32, 1996064986#32, 2554220882#32, 2821834349#32, 2952996808#32, 3210313671#32, 3336571891#32, 3584528711#32, 113926993#32, 338241895#32, 666307205#32, 773529912#32, 1294757372#32, 1396182291#32, 1695183700#32, 1986661051#32, 2177026350#32, 2456956037#32, 2730485921#32, 2820302411#32, 3259730800#32, 3345764771#32, 3516065817#32, 3600352804#32, 4094571909#32, 275423344#32, 430227734#32, 506948616#32, 659060556#32, 883997877#32, 958139571#32, 1322822218#32, 1537002063#32, 1747873779#32, 1955562222#32, 2024104815#32, 2227730452#32, 2361852424#32, 2428436474#32, 2756734187#32, 3204031479#32, 3329325298#32] Xf Qbl Gw Zj rfl rfl) <| Ye m1 (Qj (f := u32) (l := [1116352408#32, 1899447441#32, 3049323471#32, 3921009573#32, 961987163#32, 1508970993#32, 2453635748#32, 2870763221#32, 3624381080#32, 310598401#32, 607225278#32, 1426881987#32, 1925078388#32, 2162078206#32, 2614888103#32, 3248222580#32, 3835390401#32, 4022224774#32, 264347078#32, 604807628#32, 770255983#32, 1249150122#32, 1555081692#32, 1996064986#32, 2554220882#32, 2821834349#32, 2952996808#32, 3210313671#32, 3336571891#32, 3584528711#32, 113926993#32, 338241895#32, 666307205#32, 773529912#32, 1294757372#32, 1396182291#32, 1695183700#32, 1986661051#32, 2177026350#32, 2456956037#32, 2730485921#32, 2820302411#32, 3259730800#32, 3345764771#32, 3516065817#32, 3600352804#32, 4094571909#32, 275423344#32, 430227734#32, 506948616#32, 659060556#32, 883997877#32, 958139571#32, 1322822218#32, 1537002063#32, 1747873779#32, 1955562222#32, 2024104815#32, 2227730452#32, 2361852424#32, 2428436474#32, 2756734187#32, 3204031479#32, 3329325298#32]) Xf Qbl rfl rfl sD m1.h0 sZ rfl) fun w2 m2 => ?_
 refine rN (Xb ?_)
 refine Qv [(agg u32 ([1116352408#32, 1899447441#32, 3049323471#32, 3921009573#32, 961987163#32, 1508970993#32, 2453635748#32, 2870763221#32, 3624381080#32, 310598401#32, 607225278#32, 1426881987#32, 1925078388#32, 2162078206#32, 2614888103#32, 3248222580#32, 3835390401#32, 4022224774#32, 264347078#32, 604807628#32, 770255983#32, 1249150122#32, 1555081692#32, 1996064986#32, 2554220882#32, 2821834349#32, 2952996808#32, 3210313671#32, 3336571891#32, 3584528711#32, 113926993#32, 338241895#32, 666307205#32, 773529912#32, 1294757372#32, 1396182291#32, 1695183700#32, 1986661051#32, 2177026350#32, 2456956037#32, 2730485921#32, 2820302411#32, 3259730800#32, 3345764771#32, 3516065817#32, 3600352804#32, 4094571909#32, 275423344#32, 430227734#32, 506948616#32, 659060556#32, 883997877#32, 958139571#32, 1322822218#32, 1537002063#32, 1747873779#32, 1955562222#32, 2024104815#32, 2227730452#32, 2361852424#32, 2428436474#32, 2756734187#32, 3204031479#32, 3329325298#32]))] ⟨⟨_, rfl, Xr Gw rfl Qbl m2.h0 sZ⟩, trivial⟩ ?_
 exact ⟨rfl, m2.toExt⟩
set_option maxHeartbeats 4000000 in
theorem Qps (vb : Value) (l : Xg) (w0 : World)  (hr : Rd (Jl w0) u8 vb l) (hl : l.length ≤ 35184372088832) : X9 prog 91 #[vb] w0 (fun r w1 => r = (agg u8 (U4 l)) ∧ Ext w0 w1) := by
 refine Zb (args := [vb]) func91 rfl ntmps91 results91 rfl ?_
 have m0 : Mem w0 (Qu w0) [] := Mem.of_world w0
 refine sR <| Y9 (Zc m0 Zl) fun w1 b2 m1 => ?_
 refine rN (sR ?_)
 refine Y9 (Qw u8 [] Qy m1 Zu Y0 rfl (by simp [Ac]) rfl) fun w2 b21 m2 => Zp vb <| Vy (Xp (f := u8) (Hs := [(b21, .cells (cl u8 ([])) 5 (0, 0))]) (H := [_]) m2 (Xe.of u8 5 b21 ([])) rfl rfl (Rd.ofRest hr m2) Zu Zu Y0 rfl Qy sD sD) ?_
 rintro sv3 w3 ⟨Hs3, m3, g3⟩
 replace g3 : Xe u8 5 sv3 l Hs3 := g3
 refine Zz sv3 ?_
 refine rN (sR ?_)
 refine Zp sv3 <| Y9 (Qw u8 [128#8] Qy m3 Zu Y0 rfl rfl rfl) fun w4 b25 m4 => Vy (Xp (f := u8) (Hs := Hs3) (H := [_, _]) (Mem.pick [_] Hs3 _ m4) g3 rfl rfl (Rd.mkA m4.h0) Zu Zu Y0 rfl Qy sD sD) ?_
 rintro sv5 w5 ⟨Hs5, m5, g5⟩
 replace g5 : Xe u8 5 sv5 (l ++ ([128#8])) Hs5 := g5
 refine Zz sv5 ?_
 refine rN (Qa (Qk ?_))
 refine Y7 (fun g wv => ∃ (k : Nat) (pl : Xg) (sp : Value) (Hp : List (Nat × Obj)), (k ≤ ((119 - l.length % 64) % 64)) ∧ (pl = l ++ 128#8 :: List.replicate k 0#8) ∧ (Xe u8 5 sp pl Hp) ∧ g 0 = vb ∧ g 2 = (ptr b2 0) ∧ g 3 = sp ∧ Mem wv (Qu w0) (Hp ++ ([(b25, .cells (cl u8 ([128#8])) 5 (0, 0)), (b2, .cells (cl u8 (List.replicate 32 0)) 23 (0, 0))]))) (fun g wv => l.length + ((119 - l.length % 64) % 64) + 2 - sllen (g 3)) ?_ ?_
 ·exact ⟨0, l ++ ([128#8]), sv5, Hs5, oM, X7, g5, rfl, rfl, rfl, m5⟩
 rintro fr6 w7 ⟨k, pl, sp, Hp, hk, hpl, gp, s0, s2, s3, m7⟩
 have z3 := s3
 have hpn : pl.length = l.length + 1 + k := by rw [hpl]; simp; omega
 refine Qa (sR ?_)
 refine Ya s3 <| Qd (Yl (gp.rd m7) Zu rfl) <| Qd (Vf (b := 64) rfl rfl oM oM oM) <| Qd (Jw (b := 56) rfl rfl) <| rN ?_
 refine Z8 rfl (fun hc8 => ?_) (fun hc8 => ?_)
 ·
  have hc8p := bne_iff_ne.1 hc8
  refine Qs (Qc (V5 (Qb ?_)))
  refine Ya s3 <| Y9 (Qw u8 [0#8] Qy m7 Zu Y0 rfl rfl rfl) fun w9 b32 m9 => Vy (Xp (f := u8) (Hs := Hp) (H := [_, _, _]) (Mem.pick [_] Hp _ m9) gp rfl rfl (Rd.mkA m9.h0) Zu Zu Y0 rfl Qy sD sD) ?_
  rintro sv10 w10 ⟨Hs10, m10, g10⟩
  replace g10 : Xe u8 5 sv10 (pl ++ ([0#8])) Hs10 := g10
  refine Zz sv10 ?_
  refine Zv (Qh (Qc ?_))
  have m11 := Mem.drop [_] _ (Mem.pick Hs10 [_] _ m10)
  exact ⟨⟨k + 1, pl ++ ([0#8]), sv10, Hs10, oM, (by rw [hpl, List.replicate_succ']; simp), g10, s0, s2, rfl, m11⟩, (by show l.length + ((119 - l.length % 64) % 64) + 2 - sllen sv10 < l.length + ((119 - l.length % 64) % 64) + 2 - sllen _; rw [z3, gp.sllen, Xe.sllen g10]; simp [hpn]; omega)⟩
 ·
  have hc8p := X0 hc8
  have hpn : pl.length = l.length + 1 + k := by rw [hpl]; simp; omega
  obtain rfl : k = ((119 - l.length % 64) % 64) := by omega
  subst hpl
  refine X6 ?_
  refine Qm (Qm (Xi ?_))
  refine sR <| Ya s0 <| Qd (Yl (Rd.ofRest hr m7) Zu rfl) <| Qd (Jp ⟨_, Fj⟩ Ym rfl) <| Qd (Ez (b := 8#64) rfl rfl) <| Zz (u64 ((BitVec.ofInt 64 (l.length : Int)) * 8#64)) ?_
  refine rN (Qa (sR ?_))
  refine Zz (i64 7) ?_
  refine rN (Qk ?_)
  refine Wx 9 ?_
  refine Zt (Qa (sR ?_))
  refine Zp (i64 7) <| Qd (Ux 7 0) <| rN ?_
  have m12 := Mem.drop [_] _ (Mem.pick Hp [_] _ m7)
  refine Za rfl Jg ?_
  refine Qs (Qc (Qa (Qk (Qb ?_))))
  refine Ya s3 <| Zp (u64 ((BitVec.ofInt 64 (l.length : Int)) * 8#64)) <| Zp (i64 7) <| Qd (v := (i64 56)) (V7 8 7) <| Qd (Yf (b := 56) rfl rfl oM) <| Qd (Yc ⟨_, Ym⟩ Gl rfl) <| Y9 (Qw u8 [(((BitVec.ofInt 64 (l.length : Int)) * 8#64) >>> 56).setWidth 8] Qy m12 Zu Y0 rfl rfl rfl) fun w13 b48 m13 => Vy (Xp (f := u8) (Hs := Hp) (H := [_, _]) (Mem.pick [_] Hp _ m13) gp rfl rfl (Rd.mkA m13.h0) Zu Zu Y0 rfl Qy sD sD) ?_
  rintro sv14 w14 ⟨Hs14, m14, g14⟩
  replace g14 : Xe u8 5 sv14 ((l ++ 128#8 :: List.replicate ((119 - l.length % 64) % 64) 0#8) ++ ([(((BitVec.ofInt 64 (l.length : Int)) * 8#64) >>> 56).setWidth 8])) Hs14 := g14
  refine Zz sv14 ?_
  refine Zv (Qh (Qb ?_))
  refine Zp (i64 7) <| Qd (v := (i64 6)) (Gg 7 1) <| Zz (i64 6) ?_
  refine rN (Zt (Qa (sR ?_)))
  refine Zp (i64 6) <| Qd (Ux 6 0) <| rN ?_
  have m15 := Mem.drop [_] _ (Mem.pick Hs14 [_] _ m14)
  refine Za rfl Jg ?_
  refine Qs (Qc (Qa (Qk (Qb ?_))))
  refine Zp sv14 <| Zp (u64 ((BitVec.ofInt 64 (l.length : Int)) * 8#64)) <| Zp (i64 6) <| Qd (v := (i64 48)) (V7 8 6) <| Qd (Yf (b := 48) rfl rfl oM) <| Qd (Yc ⟨_, Ym⟩ Gl rfl) <| Y9 (Qw u8 [(((BitVec.ofInt 64 (l.length : Int)) * 8#64) >>> 48).setWidth 8] Qy m15 Zu Y0 rfl rfl rfl) fun w16 b48_1 m16 => Vy (Xp (f := u8) (Hs := Hs14) (H := [_, _]) (Mem.pick [_] Hs14 _ m16) g14 rfl rfl (Rd.mkA m16.h0) Zu Zu Y0 rfl Qy sD sD) ?_
  rintro sv17 w17 ⟨Hs17, m17, g17⟩
  replace g17 : Xe u8 5 sv17 (((l ++ 128#8 :: List.replicate ((119 - l.length % 64) % 64) 0#8) ++ ([(((BitVec.ofInt 64 (l.length : Int)) * 8#64) >>> 56).setWidth 8])) ++ ([(((BitVec.ofInt 64 (l.length : Int)) * 8#64) >>> 48).setWidth 8])) Hs17 := g17
  refine Zz sv17 ?_
  refine Zv (Qh (Qb ?_))
  refine Zp (i64 6) <| Qd (v := (i64 5)) (Gg 6 1) <| Zz (i64 5) ?_
  refine rN (Zt (Qa (sR ?_)))
  refine Zp (i64 5) <| Qd (Ux 5 0) <| rN ?_
  have m18 := Mem.drop [_] _ (Mem.pick Hs17 [_] _ m17)
  refine Za rfl Jg ?_
  refine Qs (Qc (Qa (Qk (Qb ?_))))
  refine Zp sv17 <| Zp (u64 ((BitVec.ofInt 64 (l.length : Int)) * 8#64)) <| Zp (i64 5) <| Qd (v := (i64 40)) (V7 8 5) <| Qd (Yf (b := 40) rfl rfl oM) <| Qd (Yc ⟨_, Ym⟩ Gl rfl) <| Y9 (Qw u8 [(((BitVec.ofInt 64 (l.length : Int)) * 8#64) >>> 40).setWidth 8] Qy m18 Zu Y0 rfl rfl rfl) fun w19 b48_2 m19 => Vy (Xp (f := u8) (Hs := Hs17) (H := [_, _]) (Mem.pick [_] Hs17 _ m19) g17 rfl rfl (Rd.mkA m19.h0) Zu Zu Y0 rfl Qy sD sD) ?_
  rintro sv20 w20 ⟨Hs20, m20, g20⟩
  replace g20 : Xe u8 5 sv20 ((((l ++ 128#8 :: List.replicate ((119 - l.length % 64) % 64) 0#8) ++ ([(((BitVec.ofInt 64 (l.length : Int)) * 8#64) >>> 56).setWidth 8])) ++ ([(((BitVec.ofInt 64 (l.length : Int)) * 8#64) >>> 48).setWidth 8])) ++ ([(((BitVec.ofInt 64 (l.length : Int)) * 8#64) >>> 40).setWidth 8])) Hs20 := g20
  refine Zz sv20 ?_
  refine Zv (Qh (Qb ?_))
  refine Zp (i64 5) <| Qd (v := (i64 4)) (Gg 5 1) <| Zz (i64 4) ?_
  refine rN (Zt (Qa (sR ?_)))
  refine Zp (i64 4) <| Qd (Ux 4 0) <| rN ?_
  have m21 := Mem.drop [_] _ (Mem.pick Hs20 [_] _ m20)
  refine Za rfl Jg ?_
  refine Qs (Qc (Qa (Qk (Qb ?_))))
  refine Zp sv20 <| Zp (u64 ((BitVec.ofInt 64 (l.length : Int)) * 8#64)) <| Zp (i64 4) <| Qd (v := (i64 32)) (V7 8 4) <| Qd (Yf (b := 32) rfl rfl oM) <| Qd (Yc ⟨_, Ym⟩ Gl rfl) <| Y9 (Qw u8 [(((BitVec.ofInt 64 (l.length : Int)) * 8#64) >>> 32).setWidth 8] Qy m21 Zu Y0 rfl rfl rfl) fun w22 b48_3 m22 => Vy (Xp (f := u8) (Hs := Hs20) (H := [_, _]) (Mem.pick [_] Hs20 _ m22) g20 rfl rfl (Rd.mkA m22.h0) Zu Zu Y0 rfl Qy sD sD) ?_
  rintro sv23 w23 ⟨Hs23, m23, g23⟩
  replace g23 : Xe u8 5 sv23 (((((l ++ 128#8 :: List.replicate ((119 - l.length % 64) % 64) 0#8) ++ ([(((BitVec.ofInt 64 (l.length : Int)) * 8#64) >>> 56).setWidth 8])) ++ ([(((BitVec.ofInt 64 (l.length : Int)) * 8#64) >>> 48).setWidth 8])) ++ ([(((BitVec.ofInt 64 (l.length : Int)) * 8#64) >>> 40).setWidth 8])) ++ ([(((BitVec.ofInt 64 (l.length : Int)) * 8#64) >>> 32).setWidth 8])) Hs23 := g23
  refine Zz sv23 ?_
  refine Zv (Qh (Qb ?_))
  refine Zp (i64 4) <| Qd (v := (i64 3)) (Gg 4 1) <| Zz (i64 3) ?_
  refine rN (Zt (Qa (sR ?_)))
  refine Zp (i64 3) <| Qd (Ux 3 0) <| rN ?_
  have m24 := Mem.drop [_] _ (Mem.pick Hs23 [_] _ m23)
  refine Za rfl Jg ?_
  refine Qs (Qc (Qa (Qk (Qb ?_))))
  refine Zp sv23 <| Zp (u64 ((BitVec.ofInt 64 (l.length : Int)) * 8#64)) <| Zp (i64 3) <| Qd (v := (i64 24)) (V7 8 3) <| Qd (Yf (b := 24) rfl rfl oM) <| Qd (Yc ⟨_, Ym⟩ Gl rfl) <| Y9 (Qw u8 [(((BitVec.ofInt 64 (l.length : Int)) * 8#64) >>> 24).setWidth 8] Qy m24 Zu Y0 rfl rfl rfl) fun w25 b48_4 m25 => Vy (Xp (f := u8) (Hs := Hs23) (H := [_, _]) (Mem.pick [_] Hs23 _ m25) g23 rfl rfl (Rd.mkA m25.h0) Zu Zu Y0 rfl Qy sD sD) ?_
  rintro sv26 w26 ⟨Hs26, m26, g26⟩
  replace g26 : Xe u8 5 sv26 ((((((l ++ 128#8 :: List.replicate ((119 - l.length % 64) % 64) 0#8) ++ ([(((BitVec.ofInt 64 (l.length : Int)) * 8#64) >>> 56).setWidth 8])) ++ ([(((BitVec.ofInt 64 (l.length : Int)) * 8#64) >>> 48).setWidth 8])) ++ ([(((BitVec.ofInt 64 (l.length : Int)) * 8#64) >>> 40).setWidth 8])) ++ ([(((BitVec.ofInt 64 (l.length : Int)) * 8#64) >>> 32).setWidth 8])) ++ ([(((BitVec.ofInt 64 (l.length : Int)) * 8#64) >>> 24).setWidth 8])) Hs26 := g26
  refine Zz sv26 ?_
  refine Zv (Qh (Qb ?_))
  refine Zp (i64 3) <| Qd (v := (i64 2)) (Gg 3 1) <| Zz (i64 2) ?_
  refine rN (Zt (Qa (sR ?_)))
  refine Zp (i64 2) <| Qd (Ux 2 0) <| rN ?_
  have m27 := Mem.drop [_] _ (Mem.pick Hs26 [_] _ m26)
  refine CW.abs (fun g => g 0 = vb ∧ g 2 = (ptr b2 0) ∧ g 3 = sv26 ∧ g 4 = (u64 ((BitVec.ofInt 64 (l.length : Int)) * 8#64)) ∧ g 5 = (i64 2) ∧ g 30 = (bl ((((l ++ 128#8 :: List.replicate ((119 - l.length % 64) % 64) 0#8).length : Int) % 64) != 56)) ∧ g 39 = (bl true) ∧ True) ⟨s0, s2, rfl, rfl, rfl, rfl, rfl, trivial⟩ ?_
  rintro fr28 ⟨s0, s2, s3, s4, s5, s30, s39, _⟩
  refine Za s39 Jg ?_
  refine Qs (Qc (Qa (Qk (Qb ?_))))
  refine Ya s3 <| Ya s4 <| Ya s5 <| Qd (v := (i64 16)) (V7 8 2) <| Qd (Yf (b := 16) rfl rfl oM) <| Qd (Yc ⟨_, Ym⟩ Gl rfl) <| Y9 (Qw u8 [(((BitVec.ofInt 64 (l.length : Int)) * 8#64) >>> 16).setWidth 8] Qy m27 Zu Y0 rfl rfl rfl) fun w29 b48_5 m29 => Vy (Xp (f := u8) (Hs := Hs26) (H := [_, _]) (Mem.pick [_] Hs26 _ m29) g26 rfl rfl (Rd.mkA m29.h0) Zu Zu Y0 rfl Qy sD sD) ?_
  rintro sv30 w30 ⟨Hs30, m30, g30⟩
  replace g30 : Xe u8 5 sv30 (((((((l ++ 128#8 :: List.replicate ((119 - l.length % 64) % 64) 0#8) ++ ([(((BitVec.ofInt 64 (l.length : Int)) * 8#64) >>> 56).setWidth 8])) ++ ([(((BitVec.ofInt 64 (l.length : Int)) * 8#64) >>> 48).setWidth 8])) ++ ([(((BitVec.ofInt 64 (l.length : Int)) * 8#64) >>> 40).setWidth 8])) ++ ([(((BitVec.ofInt 64 (l.length : Int)) * 8#64) >>> 32).setWidth 8])) ++ ([(((BitVec.ofInt 64 (l.length : Int)) * 8#64) >>> 24).setWidth 8])) ++ ([(((BitVec.ofInt 64 (l.length : Int)) * 8#64) >>> 16).setWidth 8])) Hs30 := g30
  refine Zz sv30 ?_
  refine Zv (Qh (Qb ?_))
  refine Ya s5 <| Qd (v := (i64 1)) (Gg 2 1) <| Zz (i64 1) ?_
  refine rN (Zt (Qa (sR ?_)))
  refine Zp (i64 1) <| Qd (Ux 1 0) <| rN ?_
  have m31 := Mem.drop [_] _ (Mem.pick Hs30 [_] _ m30)
  refine Za rfl Jg ?_
  refine Qs (Qc (Qa (Qk (Qb ?_))))
  refine Zp sv30 <| Ya s4 <| Zp (i64 1) <| Qd (v := (i64 8)) (V7 8 1) <| Qd (Yf (b := 8) rfl rfl oM) <| Qd (Yc ⟨_, Ym⟩ Gl rfl) <| Y9 (Qw u8 [(((BitVec.ofInt 64 (l.length : Int)) * 8#64) >>> 8).setWidth 8] Qy m31 Zu Y0 rfl rfl rfl) fun w32 b48_6 m32 => Vy (Xp (f := u8) (Hs := Hs30) (H := [_, _]) (Mem.pick [_] Hs30 _ m32) g30 rfl rfl (Rd.mkA m32.h0) Zu Zu Y0 rfl Qy sD sD) ?_
  rintro sv33 w33 ⟨Hs33, m33, g33⟩
  replace g33 : Xe u8 5 sv33 ((((((((l ++ 128#8 :: List.replicate ((119 - l.length % 64) % 64) 0#8) ++ ([(((BitVec.ofInt 64 (l.length : Int)) * 8#64) >>> 56).setWidth 8])) ++ ([(((BitVec.ofInt 64 (l.length : Int)) * 8#64) >>> 48).setWidth 8])) ++ ([(((BitVec.ofInt 64 (l.length : Int)) * 8#64) >>> 40).setWidth 8])) ++ ([(((BitVec.ofInt 64 (l.length : Int)) * 8#64) >>> 32).setWidth 8])) ++ ([(((BitVec.ofInt 64 (l.length : Int)) * 8#64) >>> 24).setWidth 8])) ++ ([(((BitVec.ofInt 64 (l.length : Int)) * 8#64) >>> 16).setWidth 8])) ++ ([(((BitVec.ofInt 64 (l.length : Int)) * 8#64) >>> 8).setWidth 8])) Hs33 := g33
  refine Zz sv33 ?_
  refine Zv (Qh (Qb ?_))
  refine Zp (i64 1) <| Qd (v := (i64 0)) (Gg 1 1) <| Zz (i64 0) ?_
  refine rN (Zt (Qa (sR ?_)))
  refine Zp (i64 0) <| Qd (Ux 0 0) <| rN ?_
  have m34 := Mem.drop [_] _ (Mem.pick Hs33 [_] _ m33)
  refine Za rfl Jg ?_
  refine Qs (Qc (Qa (Qk (Qb ?_))))
  refine Zp sv33 <| Ya s4 <| Zp (i64 0) <| Qd (v := (i64 0)) (V7 8 0) <| Qd (Yf (b := 0) rfl rfl oM) <| Qd (Yc ⟨_, Ym⟩ Gl rfl) <| Y9 (Qw u8 [(((BitVec.ofInt 64 (l.length : Int)) * 8#64) >>> 0).setWidth 8] Qy m34 Zu Y0 rfl rfl rfl) fun w35 b48_7 m35 => Vy (Xp (f := u8) (Hs := Hs33) (H := [_, _]) (Mem.pick [_] Hs33 _ m35) g33 rfl rfl (Rd.mkA m35.h0) Zu Zu Y0 rfl Qy sD sD) ?_
  rintro sv36 w36 ⟨Hs36, m36, g36⟩
  replace g36 : Xe u8 5 sv36 (((((((((l ++ 128#8 :: List.replicate ((119 - l.length % 64) % 64) 0#8) ++ ([(((BitVec.ofInt 64 (l.length : Int)) * 8#64) >>> 56).setWidth 8])) ++ ([(((BitVec.ofInt 64 (l.length : Int)) * 8#64) >>> 48).setWidth 8])) ++ ([(((BitVec.ofInt 64 (l.length : Int)) * 8#64) >>> 40).setWidth 8])) ++ ([(((BitVec.ofInt 64 (l.length : Int)) * 8#64) >>> 32).setWidth 8])) ++ ([(((BitVec.ofInt 64 (l.length : Int)) * 8#64) >>> 24).setWidth 8])) ++ ([(((BitVec.ofInt 64 (l.length : Int)) * 8#64) >>> 16).setWidth 8])) ++ ([(((BitVec.ofInt 64 (l.length : Int)) * 8#64) >>> 8).setWidth 8])) ++ ([(((BitVec.ofInt 64 (l.length : Int)) * 8#64) >>> 0).setWidth 8])) Hs36 := g36
  refine Zz sv36 ?_
  refine Zv (Qh (Qb ?_))
  refine Zp (i64 0) <| Qd (v := (i64 (-1))) (Gg 0 1) <| Zz (i64 (-1)) ?_
  refine rN (Zt (Qa (sR ?_)))
  refine Zp (i64 (-1)) <| Qd (Ux (-1) 0) <| rN ?_
  have m37 := Mem.drop [_] _ (Mem.pick Hs36 [_] _ m36)
  refine Yy rfl Jg <| X6 ?_
  refine Qm (Qm (Xi ?_))
  refine Qa ?_
  have hM : ((((((((l ++ 128#8 :: List.replicate ((119 - l.length % 64) % 64) 0#8) ++ ([(((BitVec.ofInt 64 (l.length : Int)) * 8#64) >>> 56).setWidth 8])) ++ ([(((BitVec.ofInt 64 (l.length : Int)) * 8#64) >>> 48).setWidth 8])) ++ ([(((BitVec.ofInt 64 (l.length : Int)) * 8#64) >>> 40).setWidth 8])) ++ ([(((BitVec.ofInt 64 (l.length : Int)) * 8#64) >>> 32).setWidth 8])) ++ ([(((BitVec.ofInt 64 (l.length : Int)) * 8#64) >>> 24).setWidth 8])) ++ ([(((BitVec.ofInt 64 (l.length : Int)) * 8#64) >>> 16).setWidth 8])) ++ ([(((BitVec.ofInt 64 (l.length : Int)) * 8#64) >>> 8).setWidth 8])) ++ ([(((BitVec.ofInt 64 (l.length : Int)) * 8#64) >>> 0).setWidth 8]) = (l ++ padR (BitVec.ofInt 64 (l.length : Int) * 8#64) ((119 - l.length % 64) % 64)) := by simp [padR]
  obtain ⟨M, hMM⟩ : ∃ M, M = (l ++ padR (BitVec.ofInt 64 (l.length : Int) * 8#64) ((119 - l.length % 64) % 64)) := ⟨_, rfl⟩
  have hMl : M.length = l.length + 9 + ((119 - l.length % 64) % 64) := by rw [hMM]; simp [padR]; omega
  have hMd : M.length % 64 = 0 := by clear m0; omega
  have gM38 := g36
  rw [hM, ← hMM] at gM38
  refine Qb <| U9 m37 (oc105 (Qn9) (c_table _)) fun w39 m39 => Y9 (Zc m39 Qbl) fun w41 b6 m41 => Ye m41 (Qj (f := u32) (l := Eb) Xf Qbl rfl rfl sD m41.h0 sZ rfl) fun w42 m42 => ?_
  refine rN (sR ?_)
  refine Qd (Gq u32 [1779033703#32, 3144134277#32, 1013904242#32, 2773480762#32, 1359893119#32, 2600822924#32, 528734635#32, 1541459225#32] Xf Uk Jc Zj rfl rfl) <| Y9 (Zc m42 Uk) fun w43 b7 m43 => Ye m43 (Qj (f := u32) (l := [1779033703#32, 3144134277#32, 1013904242#32, 2773480762#32, 1359893119#32, 2600822924#32, 528734635#32, 1541459225#32]) Xf Uk rfl rfl sD m43.h0 sZ rfl) fun w44 m44 => ?_
  refine rN (Qa (sR ?_))
  refine Zz (i64 0) ?_
  refine rN (Qk ?_)
  refine Y7 (fun g wv => ∃ (m : Nat) (h0 h1 h2 h3 h4 h5 h6 h7 : BitVec 32), (64 * m ≤ M.length) ∧ ([h0, h1, h2, h3, h4, h5, h6, h7] = hAt Qb2 M m) ∧ g 0 = vb ∧ g 2 = (ptr b2 0) ∧ g 3 = sv36 ∧ g 4 = (u64 ((BitVec.ofInt 64 (l.length : Int)) * 8#64)) ∧ g 5 = (i64 (-1)) ∧ g 6 = (ptr b6 0) ∧ g 7 = (ptr b7 0) ∧ g 8 = (i64 ((64 * m : Nat) : Int)) ∧ g 30 = (bl ((((l ++ 128#8 :: List.replicate ((119 - l.length % 64) % 64) 0#8).length : Int) % 64) != 56)) ∧ g 39 = (bl false) ∧ Mem wv (Qu w0) ([(b7, .cells (cl u32 ([h0, h1, h2, h3, h4, h5, h6, h7])) 152 (0, 0)), (b6, .cells (cl u32 Eb) 160 (0, 0))] ++ (Hs36 ++ ([(b2, .cells (cl u8 (List.replicate 32 0)) 23 (0, 0))])))) (fun g wv => ((M.length : Int) - RowKit.intOf (g 8)).toNat) ?_ ?_
  ·exact ⟨0, 1779033703#32, 3144134277#32, 1013904242#32, 2773480762#32, 1359893119#32, 2600822924#32, 528734635#32, 1541459225#32, oM, (hAt_zero Qb2 M).symm, s0, s2, rfl, s4, rfl, rfl, rfl, rfl, s30, rfl, m44⟩
  rintro fr45 w46 ⟨m, h0, h1, h2, h3, h4, h5, h6, h7, hm, hh, s0, s2, s3, s4, s5, s6, s7, s8, s30, s39, m46⟩
  have z8 := s8
  refine Qa (sR ?_)
  refine Ya s8 <| Ya s3 <| Qd (Yl (gM38.rd (Mem.pick [_, _] Hs36 _ m46)) Zu rfl) <| Qd (Z9 rfl rfl) <| rN ?_
  refine Z8 rfl (fun hc47 => ?_) (fun hc47 => ?_)
  ·
   have hc47p := of_decide_eq_true hc47
   have m64 : 64 * m + 64 ≤ M.length := by clear hMl; omega
   refine Qs (Qc (Qa (Qk (sR ?_))))
   refine Qd (Vo (ps := []) (c := (cl u32 (List.replicate 64 0))) Qbl Gw Zj X7 rfl) <| Y9 (Zc m46 Qbl) fun w48 b9 m48 => Ye m48 (Qj (f := u32) (l := List.replicate 64 0) Xf Qbl rfl rfl sD m48.h0 sZ rfl) fun w49 m49 => ?_
   refine rN (sR ?_)
   refine Qd (Qp Jc rfl Uk s7 m49.h1 sZ) <| Y9 (Zc m49 Uk) fun w50 b10 m50 => Ye m50 (Qj (f := u32) (l := [h0, h1, h2, h3, h4, h5, h6, h7]) Xf Uk rfl rfl sD m50.h0 sZ rfl) fun w51 m51 => ?_
   refine rN (Qa (sR ?_))
   refine Zz (i64 0) ?_
   refine rN (Qk ?_)
   refine Y7 (fun g wv => ∃ (i : Nat) (wl : List (BitVec 32)) (v0 v1 v2 v3 v4 v5 v6 v7 : BitVec 32), (i ≤ 64) ∧ (wl = Vb ((M.drop (64 * m)).take 64) i) ∧ ([v0, v1, v2, v3, v4, v5, v6, v7] = Qak (Dk ((M.drop (64 * m)).take 64)) i [h0, h1, h2, h3, h4, h5, h6, h7]) ∧ g 0 = vb ∧ g 2 = (ptr b2 0) ∧ g 3 = sv36 ∧ g 4 = (u64 ((BitVec.ofInt 64 (l.length : Int)) * 8#64)) ∧ g 5 = (i64 (-1)) ∧ g 6 = (ptr b6 0) ∧ g 7 = (ptr b7 0) ∧ g 8 = (i64 ((64 * m : Nat) : Int)) ∧ g 9 = (ptr b9 0) ∧ g 10 = (ptr b10 0) ∧ g 11 = (i64 (i : Int)) ∧ g 30 = (bl ((((l ++ 128#8 :: List.replicate ((119 - l.length % 64) % 64) 0#8).length : Int) % 64) != 56)) ∧ g 39 = (bl false) ∧ g 55 = (bl (decide (((64 * m : Nat) : Int) < (M.length : Int)))) ∧ Mem wv (Qu w0) ([(b10, .cells (cl u32 ([v0, v1, v2, v3, v4, v5, v6, v7])) 152 (0, 0)), (b9, .cells (cl u32 wl) 160 (0, 0)), (b7, .cells (cl u32 ([h0, h1, h2, h3, h4, h5, h6, h7])) 152 (0, 0)), (b6, .cells (cl u32 Eb) 160 (0, 0))] ++ (Hs36 ++ ([(b2, .cells (cl u8 (List.replicate 32 0)) 23 (0, 0))])))) (fun g wv => (64 - RowKit.intOf (g 11)).toNat) ?_ ?_
   ·exact ⟨0, (List.replicate 64 0), h0, h1, h2, h3, h4, h5, h6, h7, oM, (Qls _).symm, (Qm7 _ _).symm, s0, s2, s3, s4, s5, s6, s7, s8, rfl, rfl, rfl, s30, s39, rfl, m51⟩
   rintro fr52 w53 ⟨i, wl, v0, v1, v2, v3, v4, v5, v6, v7, hi, hw, hv, s0, s2, s3, s4, s5, s6, s7, s8, s9, s10, s11, s30, s39, s55, m53⟩
   have z11 := s11
   have hwl : wl.length = 64 := by rw [hw]; simp
   refine Qa (sR ?_)
   refine Ya s11 <| Qd (Z9 (b := 64) rfl rfl) <| rN ?_
   refine Z8 rfl (fun hc54 => ?_) (fun hc54 => ?_)
   ·
    have hc54p := of_decide_eq_true hc54
    refine Qs (Qc (Qa (Qk (Qa (sR ?_)))))
    refine Ya s11 <| Qd (Z9 (b := 16) rfl rfl) <| rN ?_
    refine Bq (J := fun g wv => ∃ (wn : List (BitVec 32)), (wn = Vb ((M.drop (64 * m)).take 64) (i + 1)) ∧ g 0 = vb ∧ g 2 = (ptr b2 0) ∧ g 3 = sv36 ∧ g 4 = (u64 ((BitVec.ofInt 64 (l.length : Int)) * 8#64)) ∧ g 5 = (i64 (-1)) ∧ g 6 = (ptr b6 0) ∧ g 7 = (ptr b7 0) ∧ g 8 = (i64 ((64 * m : Nat) : Int)) ∧ g 9 = (ptr b9 0) ∧ g 10 = (ptr b10 0) ∧ g 11 = (i64 (i : Int)) ∧ g 30 = (bl ((((l ++ 128#8 :: List.replicate ((119 - l.length % 64) % 64) 0#8).length : Int) % 64) != 56)) ∧ g 39 = (bl false) ∧ g 55 = (bl (decide (((64 * m : Nat) : Int) < (M.length : Int)))) ∧ g 61 = (bl (decide ((i : Int) < 64))) ∧ g 65 = (bl (decide ((i : Int) < 16))) ∧ Mem wv (Qu w0) ([(b10, .cells (cl u32 ([v0, v1, v2, v3, v4, v5, v6, v7])) 152 (0, 0)), (b9, .cells (cl u32 wn) 160 (0, 0)), (b7, .cells (cl u32 ([h0, h1, h2, h3, h4, h5, h6, h7])) 152 (0, 0)), (b6, .cells (cl u32 Eb) 160 (0, 0))] ++ (Hs36 ++ ([(b2, .cells (cl u8 (List.replicate 32 0)) 23 (0, 0))])))) ?_ ?_
    ·skip
     refine Z8 rfl (fun hc55 => ?_) (fun hc55 => ?_)
     ·
      have hc55p := of_decide_eq_true hc55
      refine sR <| Zz (i64 0) ?_
      refine rN (V5 ?_)
      refine Wx 5 ?_
      refine Zt (Qa (sR ?_))
      refine Zp (i64 0) <| Qd (Jf 0 4) <| rN <| Za rfl Jg ?_
      refine Qs (Qc (Qa (Qk ?_)))
      refine Xl (dl 16) 16 Xw <| Um rfl s11 <| Um rfl s11 <| Yb rfl (Zo (r := i) oM Gw Zj s9 rfl oM sD) <| Yn rfl (fun _ e' => Ql Xx rfl rfl (m53.ext e').h1 (Qx _ _ 0 sD)) <| Yb rfl (Ls (b := 256#32) rfl rfl) <| Um rfl s3 <| Um rfl s8 <| Um rfl s11 <| Yb rfl (Wl (a := 4) rfl rfl oM oM) <| Yb rfl (Zg rfl rfl oM oM) <| Ky rfl (i64 0) ?_
      refine Yb rfl (Zg (b := 0) rfl rfl oM oM) <| Yn rfl (fun _ e' => Zw (gM38.rd (Mem.pick [_, _, _, _] Hs36 _ (m53.ext e'))) Zu Y0 rfl rfl oM sD) <| Yn (v := (u8 (M.getD (((((64 * m : Nat) : Int) + (4 * (i : Int))) + 0 : Int).toNat) 0))) rfl (fun _ e' => X8 (l := M) (i := (((64 * m : Nat) : Int) + (4 * (i : Int))) + 0) (dflt := 0) (gM38.rd (Mem.pick [_, _, _, _] Hs36 _ (m53.ext e'))) Gl rfl oM sD rfl) <| Yb rfl (Wj ⟨_, Gl⟩ Xx rfl) <| Yb rfl (X5 rfl rfl) <| Gs m53 fun w56 m56 => Qd (Zo (r := i) oM Gw Zj s9 rfl oM sD) <| Vz m56 (Xz (f := u32) (a := ((wl.getD i 0) * 256#32) + ((M.getD (((((64 * m : Nat) : Int) + (4 * (i : Int))) + 0 : Int).toNat) 0).setWidth 32)) Xf Zj rfl rfl m56.h1 sD (.inl (Nat.zero_le _))) fun w57 m57 => ?_
      refine Zv (Qh (Qb ?_))
      refine Zp (i64 0) <| Qd (v := (i64 1)) (Yo 0 1) <| Zz (i64 1) ?_
      refine rN (Zt (Qa (sR ?_)))
      refine Zp (i64 1) <| Qd (Jf 1 4) <| rN <| Za rfl Jg ?_
      refine Qs (Qc (Qa (Qk ?_)))
      refine Xl (dl 16) 16 Xw <| Um rfl s11 <| Um rfl s11 <| Yb rfl (Zo (r := i) oM Gw Zj s9 rfl oM sD) <| Yn rfl (fun _ e' => Ql Xx rfl rfl (m57.ext e').h1 (Qx _ _ 0 sD)) <| Yb rfl (Ls (b := 256#32) rfl rfl) <| Um rfl s3 <| Um rfl s8 <| Um rfl s11 <| Yb rfl (Wl (a := 4) rfl rfl oM oM) <| Yb rfl (Zg rfl rfl oM oM) <| Ky rfl (i64 1) ?_
      refine Yb rfl (Zg (b := 1) rfl rfl oM oM) <| Yn rfl (fun _ e' => Zw (gM38.rd (Mem.pick [_, _, _, _] Hs36 _ (m57.ext e'))) Zu Y0 rfl rfl oM sD) <| Yn (v := (u8 (M.getD (((((64 * m : Nat) : Int) + (4 * (i : Int))) + 1 : Int).toNat) 0))) rfl (fun _ e' => X8 (l := M) (i := (((64 * m : Nat) : Int) + (4 * (i : Int))) + 1) (dflt := 0) (gM38.rd (Mem.pick [_, _, _, _] Hs36 _ (m57.ext e'))) Gl rfl oM sD rfl) <| Yb rfl (Wj ⟨_, Gl⟩ Xx rfl) <| Yb rfl (X5 rfl rfl) <| Gs m57 fun w58 m58 => Qd (Zo (r := i) oM Gw Zj s9 rfl oM sD) <| Vz m58 (Xz (f := u32) (a := (((wl.set i (((wl.getD i 0) * 256#32) + ((M.getD (((((64 * m : Nat) : Int) + (4 * (i : Int))) + 0 : Int).toNat) 0).setWidth 32))).getD i 0) * 256#32) + ((M.getD (((((64 * m : Nat) : Int) + (4 * (i : Int))) + 1 : Int).toNat) 0).setWidth 32)) Xf Zj rfl rfl m58.h1 sD (.inl (Nat.zero_le _))) fun w59 m59 => ?_
      refine Zv (Qh (Qb ?_))
      refine Zp (i64 1) <| Qd (v := (i64 2)) (Yo 1 1) <| Zz (i64 2) ?_
      refine rN (Zt (Qa (sR ?_)))
      refine Zp (i64 2) <| Qd (Jf 2 4) <| rN <| Za rfl Jg ?_
      refine Qs (Qc (Qa (Qk ?_)))
      refine Xl (dl 16) 16 Xw <| Um rfl s11 <| Um rfl s11 <| Yb rfl (Zo (r := i) oM Gw Zj s9 rfl oM sD) <| Yn rfl (fun _ e' => Ql Xx rfl rfl (m59.ext e').h1 (Qx _ _ 0 sD)) <| Yb rfl (Ls (b := 256#32) rfl rfl) <| Um rfl s3 <| Um rfl s8 <| Um rfl s11 <| Yb rfl (Wl (a := 4) rfl rfl oM oM) <| Yb rfl (Zg rfl rfl oM oM) <| Ky rfl (i64 2) ?_
      refine Yb rfl (Zg (b := 2) rfl rfl oM oM) <| Yn rfl (fun _ e' => Zw (gM38.rd (Mem.pick [_, _, _, _] Hs36 _ (m59.ext e'))) Zu Y0 rfl rfl oM sD) <| Yn (v := (u8 (M.getD (((((64 * m : Nat) : Int) + (4 * (i : Int))) + 2 : Int).toNat) 0))) rfl (fun _ e' => X8 (l := M) (i := (((64 * m : Nat) : Int) + (4 * (i : Int))) + 2) (dflt := 0) (gM38.rd (Mem.pick [_, _, _, _] Hs36 _ (m59.ext e'))) Gl rfl oM sD rfl) <| Yb rfl (Wj ⟨_, Gl⟩ Xx rfl) <| Yb rfl (X5 rfl rfl) <| Gs m59 fun w60 m60 => Qd (Zo (r := i) oM Gw Zj s9 rfl oM sD) <| Vz m60 (Xz (f := u32) (a := ((((wl.set i (((wl.getD i 0) * 256#32) + ((M.getD (((((64 * m : Nat) : Int) + (4 * (i : Int))) + 0 : Int).toNat) 0).setWidth 32))).set i ((((wl.set i (((wl.getD i 0) * 256#32) + ((M.getD (((((64 * m : Nat) : Int) + (4 * (i : Int))) + 0 : Int).toNat) 0).setWidth 32))).getD i 0) * 256#32) + ((M.getD (((((64 * m : Nat) : Int) + (4 * (i : Int))) + 1 : Int).toNat) 0).setWidth 32))).getD i 0) * 256#32) + ((M.getD (((((64 * m : Nat) : Int) + (4 * (i : Int))) + 2 : Int).toNat) 0).setWidth 32)) Xf Zj rfl rfl m60.h1 sD (.inl (Nat.zero_le _))) fun w61 m61 => ?_
      refine Zv (Qh (Qb ?_))
      refine Zp (i64 2) <| Qd (v := (i64 3)) (Yo 2 1) <| Zz (i64 3) ?_
      refine rN (Zt (Qa (sR ?_)))
      refine Zp (i64 3) <| Qd (Jf 3 4) <| rN <| Za rfl Jg ?_
      refine Qs (Qc (Qa (Qk ?_)))
      refine Xl (dl 16) 16 Xw <| Um rfl s11 <| Um rfl s11 <| Yb rfl (Zo (r := i) oM Gw Zj s9 rfl oM sD) <| Yn rfl (fun _ e' => Ql Xx rfl rfl (m61.ext e').h1 (Qx _ _ 0 sD)) <| Yb rfl (Ls (b := 256#32) rfl rfl) <| Um rfl s3 <| Um rfl s8 <| Um rfl s11 <| Yb rfl (Wl (a := 4) rfl rfl oM oM) <| Yb rfl (Zg rfl rfl oM oM) <| Ky rfl (i64 3) ?_
      refine Yb rfl (Zg (b := 3) rfl rfl oM oM) <| Yn rfl (fun _ e' => Zw (gM38.rd (Mem.pick [_, _, _, _] Hs36 _ (m61.ext e'))) Zu Y0 rfl rfl oM sD) <| Yn (v := (u8 (M.getD (((((64 * m : Nat) : Int) + (4 * (i : Int))) + 3 : Int).toNat) 0))) rfl (fun _ e' => X8 (l := M) (i := (((64 * m : Nat) : Int) + (4 * (i : Int))) + 3) (dflt := 0) (gM38.rd (Mem.pick [_, _, _, _] Hs36 _ (m61.ext e'))) Gl rfl oM sD rfl) <| Yb rfl (Wj ⟨_, Gl⟩ Xx rfl) <| Yb rfl (X5 rfl rfl) <| Gs m61 fun w62 m62 => Qd (Zo (r := i) oM Gw Zj s9 rfl oM sD) <| Vz m62 (Xz (f := u32) (a := (((((wl.set i (((wl.getD i 0) * 256#32) + ((M.getD (((((64 * m : Nat) : Int) + (4 * (i : Int))) + 0 : Int).toNat) 0).setWidth 32))).set i ((((wl.set i (((wl.getD i 0) * 256#32) + ((M.getD (((((64 * m : Nat) : Int) + (4 * (i : Int))) + 0 : Int).toNat) 0).setWidth 32))).getD i 0) * 256#32) + ((M.getD (((((64 * m : Nat) : Int) + (4 * (i : Int))) + 1 : Int).toNat) 0).setWidth 32))).set i (((((wl.set i (((wl.getD i 0) * 256#32) + ((M.getD (((((64 * m : Nat) : Int) + (4 * (i : Int))) + 0 : Int).toNat) 0).setWidth 32))).set i ((((wl.set i (((wl.getD i 0) * 256#32) + ((M.getD (((((64 * m : Nat) : Int) + (4 * (i : Int))) + 0 : Int).toNat) 0).setWidth 32))).getD i 0) * 256#32) + ((M.getD (((((64 * m : Nat) : Int) + (4 * (i : Int))) + 1 : Int).toNat) 0).setWidth 32))).getD i 0) * 256#32) + ((M.getD (((((64 * m : Nat) : Int) + (4 * (i : Int))) + 2 : Int).toNat) 0).setWidth 32))).getD i 0) * 256#32) + ((M.getD (((((64 * m : Nat) : Int) + (4 * (i : Int))) + 3 : Int).toNat) 0).setWidth 32)) Xf Zj rfl rfl m62.h1 sD (.inl (Nat.zero_le _))) fun w63 m63 => ?_
      refine Zv (Qh ?_)
      refine CW.abs (fun g => g 0 = vb ∧ g 2 = (ptr b2 0) ∧ g 3 = sv36 ∧ g 4 = (u64 ((BitVec.ofInt 64 (l.length : Int)) * 8#64)) ∧ g 5 = (i64 (-1)) ∧ g 6 = (ptr b6 0) ∧ g 7 = (ptr b7 0) ∧ g 8 = (i64 ((64 * m : Nat) : Int)) ∧ g 9 = (ptr b9 0) ∧ g 10 = (ptr b10 0) ∧ g 11 = (i64 (i : Int)) ∧ g 12 = (i64 3) ∧ g 30 = (bl ((((l ++ 128#8 :: List.replicate ((119 - l.length % 64) % 64) 0#8).length : Int) % 64) != 56)) ∧ g 39 = (bl false) ∧ g 55 = (bl (decide (((64 * m : Nat) : Int) < (M.length : Int)))) ∧ g 61 = (bl (decide ((i : Int) < 64))) ∧ g 65 = (bl (decide ((i : Int) < 16))) ∧ g 67 = (bl true) ∧ True) ⟨s0, s2, s3, s4, s5, s6, s7, s8, s9, s10, s11, rfl, s30, s39, s55, rfl, rfl, rfl, trivial⟩ ?_
      rintro fr64 ⟨s0, s2, s3, s4, s5, s6, s7, s8, s9, s10, s11, s12, s30, s39, s55, s61, s65, s67, _⟩
      refine Qb <| Ya s12 <| Qd (v := (i64 4)) (Yo 3 1) <| Zz (i64 4) ?_
      refine rN (Zt (Qa (sR ?_)))
      refine Zp (i64 4) <| Qd (Jf 4 4) <| rN <| Yy rfl Jg <| X6 ?_
      refine Qm (Qm (Xi ?_))
      refine Qc ?_
      have hwn : (((wl.set i (((wl.getD i 0) * 256#32) + ((M.getD (((((64 * m : Nat) : Int) + (4 * (i : Int))) + 0 : Int).toNat) 0).setWidth 32))).set i ((((wl.set i (((wl.getD i 0) * 256#32) + ((M.getD (((((64 * m : Nat) : Int) + (4 * (i : Int))) + 0 : Int).toNat) 0).setWidth 32))).getD i 0) * 256#32) + ((M.getD (((((64 * m : Nat) : Int) + (4 * (i : Int))) + 1 : Int).toNat) 0).setWidth 32))).set i (((((wl.set i (((wl.getD i 0) * 256#32) + ((M.getD (((((64 * m : Nat) : Int) + (4 * (i : Int))) + 0 : Int).toNat) 0).setWidth 32))).set i ((((wl.set i (((wl.getD i 0) * 256#32) + ((M.getD (((((64 * m : Nat) : Int) + (4 * (i : Int))) + 0 : Int).toNat) 0).setWidth 32))).getD i 0) * 256#32) + ((M.getD (((((64 * m : Nat) : Int) + (4 * (i : Int))) + 1 : Int).toNat) 0).setWidth 32))).getD i 0) * 256#32) + ((M.getD (((((64 * m : Nat) : Int) + (4 * (i : Int))) + 2 : Int).toNat) 0).setWidth 32))).set i ((((((wl.set i (((wl.getD i 0) * 256#32) + ((M.getD (((((64 * m : Nat) : Int) + (4 * (i : Int))) + 0 : Int).toNat) 0).setWidth 32))).set i ((((wl.set i (((wl.getD i 0) * 256#32) + ((M.getD (((((64 * m : Nat) : Int) + (4 * (i : Int))) + 0 : Int).toNat) 0).setWidth 32))).getD i 0) * 256#32) + ((M.getD (((((64 * m : Nat) : Int) + (4 * (i : Int))) + 1 : Int).toNat) 0).setWidth 32))).set i (((((wl.set i (((wl.getD i 0) * 256#32) + ((M.getD (((((64 * m : Nat) : Int) + (4 * (i : Int))) + 0 : Int).toNat) 0).setWidth 32))).set i ((((wl.set i (((wl.getD i 0) * 256#32) + ((M.getD (((((64 * m : Nat) : Int) + (4 * (i : Int))) + 0 : Int).toNat) 0).setWidth 32))).getD i 0) * 256#32) + ((M.getD (((((64 * m : Nat) : Int) + (4 * (i : Int))) + 1 : Int).toNat) 0).setWidth 32))).getD i 0) * 256#32) + ((M.getD (((((64 * m : Nat) : Int) + (4 * (i : Int))) + 2 : Int).toNat) 0).setWidth 32))).getD i 0) * 256#32) + ((M.getD (((((64 * m : Nat) : Int) + (4 * (i : Int))) + 3 : Int).toNat) 0).setWidth 32)) = Vb ((M.drop (64 * m)).take 64) (i + 1) := by
       have e0 : (((64 * m : Nat) : Int) + 4 * (i : Int) + 0).toNat = 64 * m + (4 * i + 0) := by omega
       have e1 : (((64 * m : Nat) : Int) + 4 * (i : Int) + 1).toNat = 64 * m + (4 * i + 1) := by omega
       have e2 : (((64 * m : Nat) : Int) + 4 * (i : Int) + 2).toNat = 64 * m + (4 * i + 2) := by omega
       have e3 : (((64 * m : Nat) : Int) + 4 * (i : Int) + 3).toNat = 64 * m + (4 * i + 3) := by omega
       simp only [e0, e1, e2, e3]
       exact Qlr ((M.drop (64 * m)).take 64) i oM _ _ _ _ (Qfl M m (4 * i) oM oM) (Qfl M m (4 * i + 1) oM oM) (Qfl M m (4 * i + 2) oM oM) (Qfl M m (4 * i + 3) oM oM) wl hw
      exact ⟨((((wl.set i (((wl.getD i 0) * 256#32) + ((M.getD (((((64 * m : Nat) : Int) + (4 * (i : Int))) + 0 : Int).toNat) 0).setWidth 32))).set i ((((wl.set i (((wl.getD i 0) * 256#32) + ((M.getD (((((64 * m : Nat) : Int) + (4 * (i : Int))) + 0 : Int).toNat) 0).setWidth 32))).getD i 0) * 256#32) + ((M.getD (((((64 * m : Nat) : Int) + (4 * (i : Int))) + 1 : Int).toNat) 0).setWidth 32))).set i (((((wl.set i (((wl.getD i 0) * 256#32) + ((M.getD (((((64 * m : Nat) : Int) + (4 * (i : Int))) + 0 : Int).toNat) 0).setWidth 32))).set i ((((wl.set i (((wl.getD i 0) * 256#32) + ((M.getD (((((64 * m : Nat) : Int) + (4 * (i : Int))) + 0 : Int).toNat) 0).setWidth 32))).getD i 0) * 256#32) + ((M.getD (((((64 * m : Nat) : Int) + (4 * (i : Int))) + 1 : Int).toNat) 0).setWidth 32))).getD i 0) * 256#32) + ((M.getD (((((64 * m : Nat) : Int) + (4 * (i : Int))) + 2 : Int).toNat) 0).setWidth 32))).set i ((((((wl.set i (((wl.getD i 0) * 256#32) + ((M.getD (((((64 * m : Nat) : Int) + (4 * (i : Int))) + 0 : Int).toNat) 0).setWidth 32))).set i ((((wl.set i (((wl.getD i 0) * 256#32) + ((M.getD (((((64 * m : Nat) : Int) + (4 * (i : Int))) + 0 : Int).toNat) 0).setWidth 32))).getD i 0) * 256#32) + ((M.getD (((((64 * m : Nat) : Int) + (4 * (i : Int))) + 1 : Int).toNat) 0).setWidth 32))).set i (((((wl.set i (((wl.getD i 0) * 256#32) + ((M.getD (((((64 * m : Nat) : Int) + (4 * (i : Int))) + 0 : Int).toNat) 0).setWidth 32))).set i ((((wl.set i (((wl.getD i 0) * 256#32) + ((M.getD (((((64 * m : Nat) : Int) + (4 * (i : Int))) + 0 : Int).toNat) 0).setWidth 32))).getD i 0) * 256#32) + ((M.getD (((((64 * m : Nat) : Int) + (4 * (i : Int))) + 1 : Int).toNat) 0).setWidth 32))).getD i 0) * 256#32) + ((M.getD (((((64 * m : Nat) : Int) + (4 * (i : Int))) + 2 : Int).toNat) 0).setWidth 32))).getD i 0) * 256#32) + ((M.getD (((((64 * m : Nat) : Int) + (4 * (i : Int))) + 3 : Int).toNat) 0).setWidth 32))), hwn, s0, s2, s3, s4, s5, s6, s7, s8, s9, s10, s11, s30, s39, s55, s61, s65, m63⟩
     ·
      have hc55p := of_decide_eq_false hc55
      refine Xl (dl 46) 46 Xw <| Um rfl s11 <| Um rfl s11 <| Yb rfl (Yk (b := 2) rfl rfl oM oM) <| Yb rfl (Zo (r := ((i : Int) - 2 : Int).toNat) oM Gw Zj s9 rfl oM sD) <| Yn (v := (u32 (wl.getD (((i : Int) - 2 : Int).toNat) 0))) rfl (fun _ e' => Ql Xx rfl rfl (m53.ext e').h1 (Qx _ _ 0 sD)) <| Vg rfl rfl (fun w65 _ew65 => Qec (Xm rfl rfl) (Lh (wl.getD (((i : Int) - 2 : Int).toNat) 0) _ _ sD sD)) <| Um rfl s11 <| Yb rfl (Yk (b := 2) rfl rfl oM oM) <| Yb rfl (Zo (r := ((i : Int) - 2 : Int).toNat) oM Gw Zj s9 rfl oM sD) <| Yn (v := (u32 (wl.getD (((i : Int) - 2 : Int).toNat) 0))) rfl (fun _ e' => Ql Xx rfl rfl (m53.ext e').h1 (Qx _ _ 0 sD)) <| Vg rfl rfl (fun w68 _ew68 => Qec (Xm rfl rfl) (Lh (wl.getD (((i : Int) - 2 : Int).toNat) 0) _ _ sD sD)) ?_
      refine Yb rfl (Ju rfl rfl) <| Um rfl s11 <| Yb rfl (Yk (b := 2) rfl rfl oM oM) <| Yb rfl (Zo (r := ((i : Int) - 2 : Int).toNat) oM Gw Zj s9 rfl oM sD) <| Yn (v := (u32 (wl.getD (((i : Int) - 2 : Int).toNat) 0))) rfl (fun _ e' => Ql Xx rfl rfl (m53.ext e').h1 (Qx _ _ 0 sD)) <| Yb rfl (Us (b := 10) rfl rfl oM) <| Yb rfl (Ju rfl rfl) <| Um rfl s11 <| Yb rfl (Yk (b := 7) rfl rfl oM oM) <| Yb rfl (Zo (r := ((i : Int) - 7 : Int).toNat) oM Gw Zj s9 rfl oM sD) <| Yn (v := (u32 (wl.getD (((i : Int) - 7 : Int).toNat) 0))) rfl (fun _ e' => Ql Xx rfl rfl (m53.ext e').h1 (Qx _ _ 0 sD)) <| Yb rfl (X5 rfl rfl) ?_
      refine Um rfl s11 <| Yb rfl (Yk (b := 15) rfl rfl oM oM) <| Yb rfl (Zo (r := ((i : Int) - 15 : Int).toNat) oM Gw Zj s9 rfl oM sD) <| Yn (v := (u32 (wl.getD (((i : Int) - 15 : Int).toNat) 0))) rfl (fun _ e' => Ql Xx rfl rfl (m53.ext e').h1 (Qx _ _ 0 sD)) <| Vg rfl rfl (fun w71 _ew71 => Qec (Xm rfl rfl) (Lh (wl.getD (((i : Int) - 15 : Int).toNat) 0) _ _ sD sD)) <| Um rfl s11 <| Yb rfl (Yk (b := 15) rfl rfl oM oM) <| Yb rfl (Zo (r := ((i : Int) - 15 : Int).toNat) oM Gw Zj s9 rfl oM sD) <| Yn (v := (u32 (wl.getD (((i : Int) - 15 : Int).toNat) 0))) rfl (fun _ e' => Ql Xx rfl rfl (m53.ext e').h1 (Qx _ _ 0 sD)) <| Vg rfl rfl (fun w74 _ew74 => Qec (Xm rfl rfl) (Lh (wl.getD (((i : Int) - 15 : Int).toNat) 0) _ _ sD sD)) <| Yb rfl (Ju rfl rfl) <| Um rfl s11 ?_
      refine Yb rfl (Yk (b := 15) rfl rfl oM oM) <| Yb rfl (Zo (r := ((i : Int) - 15 : Int).toNat) oM Gw Zj s9 rfl oM sD) <| Yn (v := (u32 (wl.getD (((i : Int) - 15 : Int).toNat) 0))) rfl (fun _ e' => Ql Xx rfl rfl (m53.ext e').h1 (Qx _ _ 0 sD)) <| Yb rfl (Us (b := 3) rfl rfl oM) <| Yb rfl (Ju rfl rfl) <| Yb rfl (X5 rfl rfl) <| Um rfl s11 <| Yb rfl (Yk (b := 16) rfl rfl oM oM) <| Yb rfl (Zo (r := ((i : Int) - 16 : Int).toNat) oM Gw Zj s9 rfl oM sD) <| Yn (v := (u32 (wl.getD (((i : Int) - 16 : Int).toNat) 0))) rfl (fun _ e' => Ql Xx rfl rfl (m53.ext e').h1 (Qx _ _ 0 sD)) <| Yb rfl (X5 rfl rfl) <| Gs m53 fun w77 m77 => Qd (Zo (r := i) oM Gw Zj s9 rfl oM sD) <| Vz m77 (Xz (f := u32) (a := (((((Je (wl.getD (((i : Int) - 2 : Int).toNat) 0) (17 : Int)) ^^^ (Je (wl.getD (((i : Int) - 2 : Int).toNat) 0) (19 : Int))) ^^^ ((wl.getD (((i : Int) - 2 : Int).toNat) 0) >>> 10)) + (wl.getD (((i : Int) - 7 : Int).toNat) 0)) + (((Je (wl.getD (((i : Int) - 15 : Int).toNat) 0) (7 : Int)) ^^^ (Je (wl.getD (((i : Int) - 15 : Int).toNat) 0) (18 : Int))) ^^^ ((wl.getD (((i : Int) - 15 : Int).toNat) 0) >>> 3))) + (wl.getD (((i : Int) - 16 : Int).toNat) 0)) Xf Zj rfl rfl m77.h1 sD (.inl (Nat.zero_le _))) fun w78 m78 => rN ?_
      have hwn : wl.set i ((((((Je (wl.getD (((i : Int) - 2 : Int).toNat) 0) (17 : Int)) ^^^ (Je (wl.getD (((i : Int) - 2 : Int).toNat) 0) (19 : Int))) ^^^ ((wl.getD (((i : Int) - 2 : Int).toNat) 0) >>> 10)) + (wl.getD (((i : Int) - 7 : Int).toNat) 0)) + (((Je (wl.getD (((i : Int) - 15 : Int).toNat) 0) (7 : Int)) ^^^ (Je (wl.getD (((i : Int) - 15 : Int).toNat) 0) (18 : Int))) ^^^ ((wl.getD (((i : Int) - 15 : Int).toNat) 0) >>> 3))) + (wl.getD (((i : Int) - 16 : Int).toNat) 0)) = Vb ((M.drop (64 * m)).take 64) (i + 1) := by
       have e16 : ((i : Int) - 16).toNat = i - 16 := by omega
       have e7 : ((i : Int) - 7).toNat = i - 7 := by omega
       have e15 : ((i : Int) - 15).toNat = i - 15 := by omega
       have e2 : ((i : Int) - 2).toNat = i - 2 := by omega
       simp only [e16, e7, e15, e2]
       exact Qm2 ((M.drop (64 * m)).take 64) i oM oM wl hw
      exact ⟨(wl.set i ((((((Je (wl.getD (((i : Int) - 2 : Int).toNat) 0) (17 : Int)) ^^^ (Je (wl.getD (((i : Int) - 2 : Int).toNat) 0) (19 : Int))) ^^^ ((wl.getD (((i : Int) - 2 : Int).toNat) 0) >>> 10)) + (wl.getD (((i : Int) - 7 : Int).toNat) 0)) + (((Je (wl.getD (((i : Int) - 15 : Int).toNat) 0) (7 : Int)) ^^^ (Je (wl.getD (((i : Int) - 15 : Int).toNat) 0) (18 : Int))) ^^^ ((wl.getD (((i : Int) - 15 : Int).toNat) 0) >>> 3))) + (wl.getD (((i : Int) - 16 : Int).toNat) 0))), hwn, s0, s2, s3, s4, s5, s6, s7, s8, s9, s10, s11, s30, s39, s55, rfl, rfl, m78⟩
    rintro fr79 w80 ⟨wn, hwn, s0, s2, s3, s4, s5, s6, s7, s8, s9, s10, s11, s30, s39, s55, s61, s65, m80⟩
    have hwnl : wn.length = 64 := by rw [hwn, Qah]
    refine sR <| Qd (Xv 4 4 Jc Zj s10) <| Qd (v := (u32 v4)) (Ql Xx rfl rfl m80.h0 (Qx _ _ 0 X7)) <| Qd (Xv 5 5 Jc Zj s10) <| Qd (v := (u32 v5)) (Ql Xx rfl rfl m80.h0 (Qx _ _ 0 X7)) <| Qd (E5 rfl rfl) <| Qd (Xv 4 4 Jc Zj s10) <| Qd (v := (u32 v4)) (Ql Xx rfl rfl m80.h0 (Qx _ _ 0 X7)) <| Qd (Qjf rfl) <| Qd (Xv 6 6 Jc Zj s10) <| Qd (v := (u32 v6)) (Ql Xx rfl rfl m80.h0 (Qx _ _ 0 X7)) <| Qd (E5 rfl rfl) ?_
    refine Qd (Ju rfl rfl) <| Zz (u32 ((v4 &&& v5) ^^^ ((~~~v4) &&& v6))) ?_
    refine rN (sR ?_)
    refine Qd (Xv 0 0 Jc Zj s10) <| Qd (v := (u32 v0)) (Ql Xx rfl rfl m80.h0 (Qx _ _ 0 X7)) <| Qd (Xv 1 1 Jc Zj s10) <| Qd (v := (u32 v1)) (Ql Xx rfl rfl m80.h0 (Qx _ _ 0 X7)) <| Qd (E5 rfl rfl) <| Qd (Xv 0 0 Jc Zj s10) <| Qd (v := (u32 v0)) (Ql Xx rfl rfl m80.h0 (Qx _ _ 0 X7)) <| Qd (Xv 2 2 Jc Zj s10) <| Qd (v := (u32 v2)) (Ql Xx rfl rfl m80.h0 (Qx _ _ 0 X7)) <| Qd (E5 rfl rfl) <| Qd (Ju rfl rfl) <| Qd (Xv 1 1 Jc Zj s10) ?_
    refine Qd (v := (u32 v1)) (Ql Xx rfl rfl m80.h0 (Qx _ _ 0 X7)) <| Qd (Xv 2 2 Jc Zj s10) <| Qd (v := (u32 v2)) (Ql Xx rfl rfl m80.h0 (Qx _ _ 0 X7)) <| Qd (E5 rfl rfl) <| Qd (Ju rfl rfl) <| Zz (u32 (((v0 &&& v1) ^^^ (v0 &&& v2)) ^^^ (v1 &&& v2))) ?_
    refine rN (Qa ?_)
    refine Xl (dl 23) 23 Xw <| Yb rfl (Xv 7 7 Jc Zj s10) <| Yn (v := (u32 v7)) rfl (fun _ e' => Ql Xx rfl rfl (m80.ext e').h0 (Qx _ _ 0 X7)) <| Yb rfl (Xv 4 4 Jc Zj s10) <| Yn (v := (u32 v4)) rfl (fun _ e' => Ql Xx rfl rfl (m80.ext e').h0 (Qx _ _ 0 X7)) <| Vg rfl rfl (fun w81 _ew81 => Qec (Xm rfl rfl) (Lh v4 _ _ sD sD)) <| Yb rfl (Xv 4 4 Jc Zj s10) <| Yn (v := (u32 v4)) rfl (fun _ e' => Ql Xx rfl rfl (m80.ext e').h0 (Qx _ _ 0 X7)) <| Vg rfl rfl (fun w84 _ew84 => Qec (Xm rfl rfl) (Lh v4 _ _ sD sD)) <| Yb rfl (Ju rfl rfl) <| Yb rfl (Xv 4 4 Jc Zj s10) <| Yn (v := (u32 v4)) rfl (fun _ e' => Ql Xx rfl rfl (m80.ext e').h0 (Qx _ _ 0 X7)) ?_
    refine Vg rfl rfl (fun w87 _ew87 => Qec (Xm rfl rfl) (Lh v4 _ _ sD sD)) <| Yb rfl (Ju rfl rfl) <| Yb rfl (X5 rfl rfl) <| Ky rfl (u32 ((v4 &&& v5) ^^^ ((~~~v4) &&& v6))) <| Yb rfl (X5 rfl rfl) <| Um rfl s11 <| Yb rfl (Zo (r := i) oM Gw Zj s6 rfl oM sD) <| Yn rfl (fun _ e' => Ql Xx rfl rfl (m80.ext e').h3 (Qx _ _ 0 sD)) <| Yb rfl (X5 rfl rfl) <| Um rfl s11 <| Yb rfl (Zo (r := i) oM Gw Zj s9 rfl oM sD) <| Yn rfl (fun _ e' => Ql Xx rfl rfl (m80.ext e').h1 (Qx _ _ 0 sD)) ?_
    refine Gs m80 fun w90 m90 => Qd (X5 rfl rfl) <| Sz rfl ?_
    refine rN (Qa ?_)
    refine Xl (dl 12) 12 Xw <| Yb rfl (Xv 0 0 Jc Zj s10) <| Yn (v := (u32 v0)) rfl (fun _ e' => Ql Xx rfl rfl (m90.ext e').h0 (Qx _ _ 0 X7)) <| Vg rfl rfl (fun w91 _ew91 => Qec (Xm rfl rfl) (Lh v0 _ _ sD sD)) <| Yb rfl (Xv 0 0 Jc Zj s10) <| Yn (v := (u32 v0)) rfl (fun _ e' => Ql Xx rfl rfl (m90.ext e').h0 (Qx _ _ 0 X7)) <| Vg rfl rfl (fun w94 _ew94 => Qec (Xm rfl rfl) (Lh v0 _ _ sD sD)) <| Yb rfl (Ju rfl rfl) <| Yb rfl (Xv 0 0 Jc Zj s10) <| Yn (v := (u32 v0)) rfl (fun _ e' => Ql Xx rfl rfl (m90.ext e').h0 (Qx _ _ 0 X7)) <| Vg rfl rfl (fun w97 _ew97 => Qec (Xm rfl rfl) (Lh v0 _ _ sD sD)) <| Yb rfl (Ju rfl rfl) ?_
    refine Ky rfl (u32 (((v0 &&& v1) ^^^ (v0 &&& v2)) ^^^ (v1 &&& v2))) <| Gs m90 fun w100 m100 => Qd (X5 rfl rfl) <| Sz rfl ?_
    refine rN (Qa (sR ?_))
    refine Zz (i64 7) ?_
    refine rN (Qk ?_)
    refine Wx 8 ?_
    refine Zt (Qa (sR ?_))
    refine Zp (i64 7) <| Qd (Qg1 7 0) <| rN <| Za rfl Jg ?_
    refine Qs (Qc (Qa (Qk (Qb ?_))))
    refine Zp (i64 7) <| Zp (i64 7) <| Qd (v := (i64 6)) (Gg 7 1) <| Qd (Xv 6 6 Jc Zj s10) <| Qd (v := (u32 v6)) (Ql Xx rfl rfl m100.h0 (Qx _ _ 0 X7)) <| Qd (Xv 7 7 Jc Zj s10) <| Ye m100 (Zn (f := u32) (l' := [v0, v1, v2, v3, v4, v5, v6, v6]) rfl Xf Zj rfl rfl m100.h0 X7 (.inl (Nat.zero_le _))) fun w101 m101 => ?_
    refine Zv (Qh (Qb ?_))
    refine Zp (i64 7) <| Qd (v := (i64 6)) (Gg 7 1) <| Zz (i64 6) <| rN ?_
    refine CR.abs (fun g => g 0 = vb ∧ g 2 = (ptr b2 0) ∧ g 3 = sv36 ∧ g 4 = (u64 ((BitVec.ofInt 64 (l.length : Int)) * 8#64)) ∧ g 5 = (i64 (-1)) ∧ g 6 = (ptr b6 0) ∧ g 7 = (ptr b7 0) ∧ g 8 = (i64 ((64 * m : Nat) : Int)) ∧ g 9 = (ptr b9 0) ∧ g 10 = (ptr b10 0) ∧ g 11 = (i64 (i : Int)) ∧ g 13 = (u32 ((v4 &&& v5) ^^^ ((~~~v4) &&& v6))) ∧ g 14 = (u32 (((v0 &&& v1) ^^^ (v0 &&& v2)) ^^^ (v1 &&& v2))) ∧ g 15 = (u32 ((((v7 + (((Je v4 (6 : Int)) ^^^ (Je v4 (11 : Int))) ^^^ (Je v4 (25 : Int)))) + ((v4 &&& v5) ^^^ ((~~~v4) &&& v6))) + (Eb.getD i 0)) + (wn.getD i 0))) ∧ g 16 = (u32 ((((Je v0 (2 : Int)) ^^^ (Je v0 (13 : Int))) ^^^ (Je v0 (22 : Int))) + (((v0 &&& v1) ^^^ (v0 &&& v2)) ^^^ (v1 &&& v2)))) ∧ g 17 = (i64 6) ∧ g 30 = (bl ((((l ++ 128#8 :: List.replicate ((119 - l.length % 64) % 64) 0#8).length : Int) % 64) != 56)) ∧ g 39 = (bl false) ∧ g 55 = (bl (decide (((64 * m : Nat) : Int) < (M.length : Int)))) ∧ g 61 = (bl (decide ((i : Int) < 64))) ∧ g 65 = (bl (decide ((i : Int) < 16))) ∧ g 201 = (bl true) ∧ True) ⟨s0, s2, s3, s4, s5, s6, s7, s8, s9, s10, s11, rfl, rfl, rfl, rfl, rfl, s30, s39, s55, s61, s65, rfl, trivial⟩ ?_
    rintro fr102 ⟨s0, s2, s3, s4, s5, s6, s7, s8, s9, s10, s11, s13, s14, s15, s16, s17, s30, s39, s55, s61, s65, s201, _⟩
    refine Zt (Qa (sR ?_))
    refine Ya s17 <| Qd (Qg1 6 0) <| rN <| Za rfl Jg ?_
    refine Qs (Qc (Qa (Qk (Qb ?_))))
    refine Ya s17 <| Ya s17 <| Qd (v := (i64 5)) (Gg 6 1) <| Qd (Xv 5 5 Jc Zj s10) <| Qd (v := (u32 v5)) (Ql Xx rfl rfl m101.h0 (Qx _ _ 0 X7)) <| Qd (Xv 6 6 Jc Zj s10) <| Ye m101 (Zn (f := u32) (l' := [v0, v1, v2, v3, v4, v5, v5, v6]) rfl Xf Zj rfl rfl m101.h0 X7 (.inl (Nat.zero_le _))) fun w103 m103 => ?_
    refine Zv (Qh (Qb ?_))
    refine Ya s17 <| Qd (v := (i64 5)) (Gg 6 1) <| Zz (i64 5) ?_
    refine rN (Zt (Qa (sR ?_)))
    refine Zp (i64 5) <| Qd (Qg1 5 0) <| rN <| Za rfl Jg ?_
    refine Qs (Qc (Qa (Qk (Qb ?_))))
    refine Zp (i64 5) <| Zp (i64 5) <| Qd (v := (i64 4)) (Gg 5 1) <| Qd (Xv 4 4 Jc Zj s10) <| Qd (v := (u32 v4)) (Ql Xx rfl rfl m103.h0 (Qx _ _ 0 X7)) <| Qd (Xv 5 5 Jc Zj s10) <| Ye m103 (Zn (f := u32) (l' := [v0, v1, v2, v3, v4, v4, v5, v6]) rfl Xf Zj rfl rfl m103.h0 X7 (.inl (Nat.zero_le _))) fun w104 m104 => ?_
    refine Zv (Qh (Qb ?_))
    refine Zp (i64 5) <| Qd (v := (i64 4)) (Gg 5 1) <| Zz (i64 4) ?_
    refine rN (Zt (Qa (sR ?_)))
    refine Zp (i64 4) <| Qd (Qg1 4 0) <| rN <| Za rfl Jg ?_
    refine Qs (Qc (Qa (Qk (Qb ?_))))
    refine Zp (i64 4) <| Zp (i64 4) <| Qd (v := (i64 3)) (Gg 4 1) <| Qd (Xv 3 3 Jc Zj s10) <| Qd (v := (u32 v3)) (Ql Xx rfl rfl m104.h0 (Qx _ _ 0 X7)) <| Qd (Xv 4 4 Jc Zj s10) <| Ye m104 (Zn (f := u32) (l' := [v0, v1, v2, v3, v3, v4, v5, v6]) rfl Xf Zj rfl rfl m104.h0 X7 (.inl (Nat.zero_le _))) fun w105 m105 => ?_
    refine Zv (Qh (Qb ?_))
    refine Zp (i64 4) <| Qd (v := (i64 3)) (Gg 4 1) <| Zz (i64 3) ?_
    refine rN (Zt (Qa (sR ?_)))
    refine Zp (i64 3) <| Qd (Qg1 3 0) <| rN <| Za rfl Jg ?_
    refine Qs (Qc (Qa (Qk (Qb ?_))))
    refine Zp (i64 3) <| Zp (i64 3) <| Qd (v := (i64 2)) (Gg 3 1) <| Qd (Xv 2 2 Jc Zj s10) <| Qd (v := (u32 v2)) (Ql Xx rfl rfl m105.h0 (Qx _ _ 0 X7)) <| Qd (Xv 3 3 Jc Zj s10) <| Ye m105 (Zn (f := u32) (l' := [v0, v1, v2, v2, v3, v4, v5, v6]) rfl Xf Zj rfl rfl m105.h0 X7 (.inl (Nat.zero_le _))) fun w106 m106 => ?_
    refine Zv (Qh (Qb ?_))
    refine Zp (i64 3) <| Qd (v := (i64 2)) (Gg 3 1) <| Zz (i64 2) ?_
    refine rN (Zt (Qa (sR ?_)))
    refine Zp (i64 2) <| Qd (Qg1 2 0) <| rN <| Za rfl Jg ?_
    refine Qs (Qc (Qa (Qk (Qb ?_))))
    refine Zp (i64 2) <| Zp (i64 2) <| Qd (v := (i64 1)) (Gg 2 1) <| Qd (Xv 1 1 Jc Zj s10) <| Qd (v := (u32 v1)) (Ql Xx rfl rfl m106.h0 (Qx _ _ 0 X7)) <| Qd (Xv 2 2 Jc Zj s10) <| Ye m106 (Zn (f := u32) (l' := [v0, v1, v1, v2, v3, v4, v5, v6]) rfl Xf Zj rfl rfl m106.h0 X7 (.inl (Nat.zero_le _))) fun w107 m107 => ?_
    refine Zv (Qh (Qb ?_))
    refine Zp (i64 2) <| Qd (v := (i64 1)) (Gg 2 1) <| Zz (i64 1) ?_
    refine rN (Zt (Qa (sR ?_)))
    refine Zp (i64 1) <| Qd (Qg1 1 0) <| rN <| Za rfl Jg ?_
    refine Qs (Qc (Qa (Qk (Qb ?_))))
    refine Zp (i64 1) <| Zp (i64 1) <| Qd (v := (i64 0)) (Gg 1 1) <| Qd (Xv 0 0 Jc Zj s10) <| Qd (v := (u32 v0)) (Ql Xx rfl rfl m107.h0 (Qx _ _ 0 X7)) <| Qd (Xv 1 1 Jc Zj s10) <| Ye m107 (Zn (f := u32) (l' := [v0, v0, v1, v2, v3, v4, v5, v6]) rfl Xf Zj rfl rfl m107.h0 X7 (.inl (Nat.zero_le _))) fun w108 m108 => ?_
    refine Zv (Qh (Qb ?_))
    refine Zp (i64 1) <| Qd (v := (i64 0)) (Gg 1 1) <| Zz (i64 0) ?_
    refine rN (Zt (Qa (sR ?_)))
    refine Zp (i64 0) <| Qd (Qg1 0 0) <| rN <| Yy rfl Jg <| X6 ?_
    refine Qm (Qm (Xi ?_))
    refine sR <| Qd (Xv 4 4 Jc Zj s10) <| Qd (v := (u32 v3)) (Ql Xx rfl rfl m108.h0 (Qx _ _ 0 X7)) <| Ya s15 <| Qd (X5 rfl rfl) <| Qd (Xv 4 4 Jc Zj s10) <| Ye m108 (Zn (f := u32) (l' := [v0, v0, v1, v2, v3 + ((((v7 + (((Je v4 (6 : Int)) ^^^ (Je v4 (11 : Int))) ^^^ (Je v4 (25 : Int)))) + ((v4 &&& v5) ^^^ ((~~~v4) &&& v6))) + (Eb.getD i 0)) + (wn.getD i 0)), v4, v5, v6]) rfl Xf Zj rfl rfl m108.h0 X7 (.inl (Nat.zero_le _))) fun w109 m109 => ?_
    refine rN (Qb ?_)
    refine Ya s15 <| Ya s16 <| Qd (X5 rfl rfl) <| Qd (Xv 0 0 Jc Zj s10) <| Ye m109 (Zn (f := u32) (l' := [((((v7 + (((Je v4 (6 : Int)) ^^^ (Je v4 (11 : Int))) ^^^ (Je v4 (25 : Int)))) + ((v4 &&& v5) ^^^ ((~~~v4) &&& v6))) + (Eb.getD i 0)) + (wn.getD i 0)) + ((((Je v0 (2 : Int)) ^^^ (Je v0 (13 : Int))) ^^^ (Je v0 (22 : Int))) + (((v0 &&& v1) ^^^ (v0 &&& v2)) ^^^ (v1 &&& v2))), v0, v1, v2, v3 + ((((v7 + (((Je v4 (6 : Int)) ^^^ (Je v4 (11 : Int))) ^^^ (Je v4 (25 : Int)))) + ((v4 &&& v5) ^^^ ((~~~v4) &&& v6))) + (Eb.getD i 0)) + (wn.getD i 0)), v4, v5, v6]) rfl Xf Zj rfl rfl m109.h0 X7 (.inl (Nat.zero_le _))) fun w110 m110 => ?_
    refine Zv (Qh (Qb ?_))
    refine Ya s11 <| Qd (Zg (b := 1) rfl rfl oM oM) <| Zz (i64 ((i : Int) + 1)) <| rN ?_
    have hwi : wn.getD i 0 = (Dk ((M.drop (64 * m)).take 64)).getD i 0 := by rw [hwn]; exact Qm0 ((M.drop (64 * m)).take 64) i oM
    have hvn : [((((v7 + (((Je v4 (6 : Int)) ^^^ (Je v4 (11 : Int))) ^^^ (Je v4 (25 : Int)))) + ((v4 &&& v5) ^^^ ((~~~v4) &&& v6))) + (Eb.getD i 0)) + (wn.getD i 0)) + ((((Je v0 (2 : Int)) ^^^ (Je v0 (13 : Int))) ^^^ (Je v0 (22 : Int))) + (((v0 &&& v1) ^^^ (v0 &&& v2)) ^^^ (v1 &&& v2))), v0, v1, v2, v3 + ((((v7 + (((Je v4 (6 : Int)) ^^^ (Je v4 (11 : Int))) ^^^ (Je v4 (25 : Int)))) + ((v4 &&& v5) ^^^ ((~~~v4) &&& v6))) + (Eb.getD i 0)) + (wn.getD i 0)), v4, v5, v6] = Qak (Dk ((M.drop (64 * m)).take 64)) (i + 1) [h0, h1, h2, h3, h4, h5, h6, h7] := by
     rw [Qm8, ← hv, ← hwi]; exact rndR _ _ _ _ _ _ _ _ _ _
    exact ⟨⟨i + 1, wn, (((((v7 + (((Je v4 (6 : Int)) ^^^ (Je v4 (11 : Int))) ^^^ (Je v4 (25 : Int)))) + ((v4 &&& v5) ^^^ ((~~~v4) &&& v6))) + (Eb.getD i 0)) + (wn.getD i 0)) + ((((Je v0 (2 : Int)) ^^^ (Je v0 (13 : Int))) ^^^ (Je v0 (22 : Int))) + (((v0 &&& v1) ^^^ (v0 &&& v2)) ^^^ (v1 &&& v2)))), v0, v1, v2, (v3 + ((((v7 + (((Je v4 (6 : Int)) ^^^ (Je v4 (11 : Int))) ^^^ (Je v4 (25 : Int)))) + ((v4 &&& v5) ^^^ ((~~~v4) &&& v6))) + (Eb.getD i 0)) + (wn.getD i 0))), v4, v5, v6, oM, hwn, hvn, s0, s2, s3, s4, s5, s6, s7, s8, s9, s10, rfl, s30, s39, s55, m110⟩, Uo rfl z11 oM oM⟩
   ·
    have hc54p := of_decide_eq_false hc54
    obtain rfl : i = 64 := by omega
    refine X6 ?_
    refine Qm (Qm (Xi ?_))
    refine sR <| Zz (i64 0) ?_
    refine rN (V5 ?_)
    refine Wx 9 ?_
    refine Zt (Qa (sR ?_))
    refine Zp (i64 0) <| Qd (Jf 0 8) <| rN <| Za rfl Jg ?_
    refine Qs (Qc (Qa (Qk ?_)))
    refine Xl (dl 6) 6 Xw <| Ky rfl (i64 0) <| Yb rfl (Xv 0 0 Jc Zj s7) <| Yn (v := (u32 h0)) rfl (fun _ e' => Ql Xx rfl rfl (m53.ext e').h2 (Qx _ _ 0 X7)) <| Ky rfl (i64 0) <| Yb rfl (Xv 0 0 Jc Zj s10) <| Yn (v := (u32 v0)) rfl (fun _ e' => Ql Xx rfl rfl (m53.ext e').h0 (Qx _ _ 0 X7)) <| Gs m53 fun w111 m111 => Qd (X5 rfl rfl) <| Qd (Xv 0 0 Jc Zj s7) <| Bh m111 (Zn (f := u32) (l' := [h0 + v0, h1, h2, h3, h4, h5, h6, h7]) rfl Xf Zj rfl rfl m111.h2 X7 (.inl (Nat.zero_le _))) fun w112 m112 => ?_
    refine Zv (Qh (Qb ?_))
    refine Zp (i64 0) <| Qd (v := (i64 1)) (Yo 0 1) <| Zz (i64 1) ?_
    refine rN (Zt (Qa (sR ?_)))
    refine Zp (i64 1) <| Qd (Jf 1 8) <| rN <| Za rfl Jg ?_
    refine Qs (Qc (Qa (Qk ?_)))
    refine Xl (dl 6) 6 Xw <| Ky rfl (i64 1) <| Yb rfl (Xv 1 1 Jc Zj s7) <| Yn (v := (u32 h1)) rfl (fun _ e' => Ql Xx rfl rfl (m112.ext e').h2 (Qx _ _ 0 X7)) <| Ky rfl (i64 1) <| Yb rfl (Xv 1 1 Jc Zj s10) <| Yn (v := (u32 v1)) rfl (fun _ e' => Ql Xx rfl rfl (m112.ext e').h0 (Qx _ _ 0 X7)) <| Gs m112 fun w113 m113 => Qd (X5 rfl rfl) <| Qd (Xv 1 1 Jc Zj s7) <| Bh m113 (Zn (f := u32) (l' := [h0 + v0, h1 + v1, h2, h3, h4, h5, h6, h7]) rfl Xf Zj rfl rfl m113.h2 X7 (.inl (Nat.zero_le _))) fun w114 m114 => ?_
    refine Zv (Qh (Qb ?_))
    refine Zp (i64 1) <| Qd (v := (i64 2)) (Yo 1 1) <| Zz (i64 2) ?_
    refine rN (Zt (Qa (sR ?_)))
    refine Zp (i64 2) <| Qd (Jf 2 8) <| rN <| Za rfl Jg ?_
    refine Qs (Qc (Qa (Qk ?_)))
    refine Xl (dl 6) 6 Xw <| Ky rfl (i64 2) <| Yb rfl (Xv 2 2 Jc Zj s7) <| Yn (v := (u32 h2)) rfl (fun _ e' => Ql Xx rfl rfl (m114.ext e').h2 (Qx _ _ 0 X7)) <| Ky rfl (i64 2) <| Yb rfl (Xv 2 2 Jc Zj s10) <| Yn (v := (u32 v2)) rfl (fun _ e' => Ql Xx rfl rfl (m114.ext e').h0 (Qx _ _ 0 X7)) <| Gs m114 fun w115 m115 => Qd (X5 rfl rfl) <| Qd (Xv 2 2 Jc Zj s7) <| Bh m115 (Zn (f := u32) (l' := [h0 + v0, h1 + v1, h2 + v2, h3, h4, h5, h6, h7]) rfl Xf Zj rfl rfl m115.h2 X7 (.inl (Nat.zero_le _))) fun w116 m116 => ?_
    refine Zv (Qh (Qb ?_))
    refine Zp (i64 2) <| Qd (v := (i64 3)) (Yo 2 1) <| Zz (i64 3) ?_
    refine rN (Zt (Qa (sR ?_)))
    refine Zp (i64 3) <| Qd (Jf 3 8) <| rN <| Za rfl Jg ?_
    refine Qs (Qc (Qa (Qk ?_)))
    refine Xl (dl 6) 6 Xw <| Ky rfl (i64 3) <| Yb rfl (Xv 3 3 Jc Zj s7) <| Yn (v := (u32 h3)) rfl (fun _ e' => Ql Xx rfl rfl (m116.ext e').h2 (Qx _ _ 0 X7)) <| Ky rfl (i64 3) <| Yb rfl (Xv 3 3 Jc Zj s10) <| Yn (v := (u32 v3)) rfl (fun _ e' => Ql Xx rfl rfl (m116.ext e').h0 (Qx _ _ 0 X7)) <| Gs m116 fun w117 m117 => Qd (X5 rfl rfl) <| Qd (Xv 3 3 Jc Zj s7) <| Bh m117 (Zn (f := u32) (l' := [h0 + v0, h1 + v1, h2 + v2, h3 + v3, h4, h5, h6, h7]) rfl Xf Zj rfl rfl m117.h2 X7 (.inl (Nat.zero_le _))) fun w118 m118 => ?_
    refine Zv (Qh (Qb ?_))
    refine Zp (i64 3) <| Qd (v := (i64 4)) (Yo 3 1) <| Zz (i64 4) ?_
    refine rN (Zt (Qa (sR ?_)))
    refine Zp (i64 4) <| Qd (Jf 4 8) <| rN <| Za rfl Jg ?_
    refine Qs (Qc (Qa (Qk ?_)))
    refine Xl (dl 6) 6 Xw <| Ky rfl (i64 4) <| Yb rfl (Xv 4 4 Jc Zj s7) <| Yn (v := (u32 h4)) rfl (fun _ e' => Ql Xx rfl rfl (m118.ext e').h2 (Qx _ _ 0 X7)) <| Ky rfl (i64 4) <| Yb rfl (Xv 4 4 Jc Zj s10) <| Yn (v := (u32 v4)) rfl (fun _ e' => Ql Xx rfl rfl (m118.ext e').h0 (Qx _ _ 0 X7)) <| Gs m118 fun w119 m119 => Qd (X5 rfl rfl) <| Qd (Xv 4 4 Jc Zj s7) <| Bh m119 (Zn (f := u32) (l' := [h0 + v0, h1 + v1, h2 + v2, h3 + v3, h4 + v4, h5, h6, h7]) rfl Xf Zj rfl rfl m119.h2 X7 (.inl (Nat.zero_le _))) fun w120 m120 => ?_
    refine Zv (Qh (Qb ?_))
    refine Zp (i64 4) <| Qd (v := (i64 5)) (Yo 4 1) <| Zz (i64 5) ?_
    refine rN (Zt (Qa (sR ?_)))
    refine Zp (i64 5) <| Qd (Jf 5 8) <| rN <| Za rfl Jg ?_
    refine Qs (Qc (Qa (Qk ?_)))
    refine Xl (dl 6) 6 Xw <| Ky rfl (i64 5) <| Yb rfl (Xv 5 5 Jc Zj s7) <| Yn (v := (u32 h5)) rfl (fun _ e' => Ql Xx rfl rfl (m120.ext e').h2 (Qx _ _ 0 X7)) <| Ky rfl (i64 5) <| Yb rfl (Xv 5 5 Jc Zj s10) <| Yn (v := (u32 v5)) rfl (fun _ e' => Ql Xx rfl rfl (m120.ext e').h0 (Qx _ _ 0 X7)) <| Gs m120 fun w121 m121 => Qd (X5 rfl rfl) <| Qd (Xv 5 5 Jc Zj s7) <| Bh m121 (Zn (f := u32) (l' := [h0 + v0, h1 + v1, h2 + v2, h3 + v3, h4 + v4, h5 + v5, h6, h7]) rfl Xf Zj rfl rfl m121.h2 X7 (.inl (Nat.zero_le _))) fun w122 m122 => ?_
    refine Zv (Qh (Qb ?_))
    refine Zp (i64 5) <| Qd (v := (i64 6)) (Yo 5 1) <| Zz (i64 6) <| rN ?_
    refine CR.abs (fun g => g 0 = vb ∧ g 2 = (ptr b2 0) ∧ g 3 = sv36 ∧ g 4 = (u64 ((BitVec.ofInt 64 (l.length : Int)) * 8#64)) ∧ g 5 = (i64 (-1)) ∧ g 6 = (ptr b6 0) ∧ g 7 = (ptr b7 0) ∧ g 8 = (i64 ((64 * m : Nat) : Int)) ∧ g 9 = (ptr b9 0) ∧ g 10 = (ptr b10 0) ∧ g 11 = (i64 (64 : Int)) ∧ g 18 = (i64 6) ∧ g 30 = (bl ((((l ++ 128#8 :: List.replicate ((119 - l.length % 64) % 64) 0#8).length : Int) % 64) != 56)) ∧ g 39 = (bl false) ∧ g 55 = (bl (decide (((64 * m : Nat) : Int) < (M.length : Int)))) ∧ g 61 = (bl (decide ((64 : Int) < 64))) ∧ g 220 = (bl true) ∧ True) ⟨s0, s2, s3, s4, s5, s6, s7, s8, s9, s10, s11, rfl, s30, s39, s55, rfl, rfl, trivial⟩ ?_
    rintro fr123 ⟨s0, s2, s3, s4, s5, s6, s7, s8, s9, s10, s11, s18, s30, s39, s55, s61, s220, _⟩
    refine Zt (Qa (sR ?_))
    refine Ya s18 <| Qd (Jf 6 8) <| rN <| Za rfl Jg ?_
    refine Qs (Qc (Qa (Qk ?_)))
    refine Xl (dl 6) 6 Xw <| Um rfl s18 <| Yb rfl (Xv 6 6 Jc Zj s7) <| Yn (v := (u32 h6)) rfl (fun _ e' => Ql Xx rfl rfl (m122.ext e').h2 (Qx _ _ 0 X7)) <| Um rfl s18 <| Yb rfl (Xv 6 6 Jc Zj s10) <| Yn (v := (u32 v6)) rfl (fun _ e' => Ql Xx rfl rfl (m122.ext e').h0 (Qx _ _ 0 X7)) <| Gs m122 fun w124 m124 => Qd (X5 rfl rfl) <| Qd (Xv 6 6 Jc Zj s7) <| Bh m124 (Zn (f := u32) (l' := [h0 + v0, h1 + v1, h2 + v2, h3 + v3, h4 + v4, h5 + v5, h6 + v6, h7]) rfl Xf Zj rfl rfl m124.h2 X7 (.inl (Nat.zero_le _))) fun w125 m125 => ?_
    refine Zv (Qh (Qb ?_))
    refine Ya s18 <| Qd (v := (i64 7)) (Yo 6 1) <| Zz (i64 7) ?_
    refine rN (Zt (Qa (sR ?_)))
    refine Zp (i64 7) <| Qd (Jf 7 8) <| rN <| Za rfl Jg ?_
    refine Qs (Qc (Qa (Qk ?_)))
    refine Xl (dl 6) 6 Xw <| Ky rfl (i64 7) <| Yb rfl (Xv 7 7 Jc Zj s7) <| Yn (v := (u32 h7)) rfl (fun _ e' => Ql Xx rfl rfl (m125.ext e').h2 (Qx _ _ 0 X7)) <| Ky rfl (i64 7) <| Yb rfl (Xv 7 7 Jc Zj s10) <| Yn (v := (u32 v7)) rfl (fun _ e' => Ql Xx rfl rfl (m125.ext e').h0 (Qx _ _ 0 X7)) <| Gs m125 fun w126 m126 => Qd (X5 rfl rfl) <| Qd (Xv 7 7 Jc Zj s7) <| Bh m126 (Zn (f := u32) (l' := [h0 + v0, h1 + v1, h2 + v2, h3 + v3, h4 + v4, h5 + v5, h6 + v6, h7 + v7]) rfl Xf Zj rfl rfl m126.h2 X7 (.inl (Nat.zero_le _))) fun w127 m127 => ?_
    refine Zv (Qh (Qb ?_))
    refine Zp (i64 7) <| Qd (v := (i64 8)) (Yo 7 1) <| Zz (i64 8) ?_
    refine rN (Zt (Qa (sR ?_)))
    refine Zp (i64 8) <| Qd (Jf 8 8) <| rN <| Yy rfl Jg <| X6 ?_
    refine Qm (Qm (Xi ?_))
    refine Qh (Qb ?_)
    refine Ya s8 <| Qd (Zg (b := 64) rfl rfl oM oM) <| Zz (i64 (((64 * m : Nat) : Int) + 64)) <| rN ?_
    have hhn : [h0 + v0, h1 + v1, h2 + v2, h3 + v3, h4 + v4, h5 + v5, h6 + v6, h7 + v7] = hAt Qb2 M (m + 1) := by rw [hAt_succ, ← hh, Qg2, ← hv]; rfl
    have m128 := Mem.drop [_] _ m127
    have m129 := Mem.drop [_] _ m128
    exact ⟨⟨m + 1, (h0 + v0), (h1 + v1), (h2 + v2), (h3 + v3), (h4 + v4), (h5 + v5), (h6 + v6), (h7 + v7), oM, hhn, s0, s2, s3, s4, s5, s6, s7, (by show i64 _ = i64 _; congr 1), s30, s39, m129⟩, Uo (by show i64 _ = i64 _; congr 1) z8 (a' := ((64 * (m + 1) : Nat) : Int)) oM oM⟩
  ·
   have hc47p := of_decide_eq_false hc47
   obtain rfl : m = M.length / 64 := by omega
   refine X6 ?_
   refine Qm (Qm (Xi ?_))
   refine sR <| Qd (Vo (ps := []) (c := (cl u8 (List.replicate 32 0))) Zl Xq Y0 X7 rfl) <| Y9 (Zc m46 Zl) fun w130 b19 m130 => Ye m130 (Qj (f := u8) (l := List.replicate 32 0) Qy Zl rfl rfl sD m130.h0 sZ rfl) fun w131 m131 => ?_
   refine rN (Qa (sR ?_))
   refine Zz (i64 0) ?_
   refine rN (Qk ?_)
   refine Y7 (fun g wv => ∃ (e : Nat), (e ≤ 32) ∧ g 0 = vb ∧ g 2 = (ptr b2 0) ∧ g 3 = sv36 ∧ g 4 = (u64 ((BitVec.ofInt 64 (l.length : Int)) * 8#64)) ∧ g 5 = (i64 (-1)) ∧ g 6 = (ptr b6 0) ∧ g 7 = (ptr b7 0) ∧ g 8 = (i64 ((64 * (M.length / 64) : Nat) : Int)) ∧ g 19 = (ptr b19 0) ∧ g 20 = (i64 (e : Int)) ∧ g 30 = (bl ((((l ++ 128#8 :: List.replicate ((119 - l.length % 64) % 64) 0#8).length : Int) % 64) != 56)) ∧ g 39 = (bl false) ∧ g 55 = (bl (decide (((64 * (M.length / 64) : Nat) : Int) < (M.length : Int)))) ∧ Mem wv (Qu w0) ([(b19, .cells (cl u8 (Y1 (fun q => ([h0, h1, h2, h3, h4, h5, h6, h7].getD (q / 4) 0 >>> (24 - 8 * (q % 4))).setWidth 8) 0 32 e)) 23 (0, 0)), (b7, .cells (cl u32 ([h0, h1, h2, h3, h4, h5, h6, h7])) 152 (0, 0)), (b6, .cells (cl u32 Eb) 160 (0, 0))] ++ (Hs36 ++ ([(b2, .cells (cl u8 (List.replicate 32 0)) 23 (0, 0))])))) (fun g wv => (32 - RowKit.intOf (g 20)).toNat) ?_ ?_
   ·exact ⟨0, oM, s0, s2, s3, s4, s5, s6, s7, s8, rfl, rfl, s30, s39, rfl, (by rw [Em]; exact m131)⟩
   rintro fr132 w133 ⟨e, he, s0, s2, s3, s4, s5, s6, s7, s8, s19, s20, s30, s39, s55, m133⟩
   have z20 := s20
   have hfl : (Y1 (fun q => ([h0, h1, h2, h3, h4, h5, h6, h7].getD (q / 4) 0 >>> (24 - 8 * (q % 4))).setWidth 8) (0 : BitVec 8) 32 e).length = 32 := Kz _ _ _ _ he
   refine Qa (sR ?_)
   refine Ya s20 <| Qd (Z9 (b := 32) rfl rfl) <| rN ?_
   refine Z8 rfl (fun hc134 => ?_) (fun hc134 => ?_)
   ·
    have hc134p := of_decide_eq_true hc134
    refine Qs (Qc (Qa (Qk (Qb ?_))))
    refine Ya s20 <| Ya s20 <| Qd (Ko.cast (congrArg i64 (show (e : Int) / 4 = ((e / 4 : Nat) : Int) by omega)) (Uu (b := 4) rfl rfl oM oM oM)) <| Qd (Zo (r := (e / 4)) oM Jc Zj s7 rfl oM sD) <| Qd (v := (u32 (([h0, h1, h2, h3, h4, h5, h6, h7]).getD (e / 4) 0))) (Ql Xx rfl rfl m133.h1 (Qx _ _ 0 sD)) <| Ya s20 <| Qd (Vf (b := 4) rfl rfl oM oM oM) <| Qd (Wl (a := 8) rfl rfl oM oM) <| Qd (Ko.cast (congrArg i64 (show 24 - (8 * ((e : Int) % 4)) = ((24 - 8 * (e % 4) : Nat) : Int) by omega)) (Yk (a := 24) rfl rfl oM oM)) <| Qd (Us rfl rfl oM) <| Qd (Fz ⟨_, Xx⟩ Gl rfl) <| Qd (Zo (r := e) oM Xq Y0 s19 rfl oM sD) ?_
    refine Ye m133 (Xz (f := u8) (a := ((([h0, h1, h2, h3, h4, h5, h6, h7]).getD (e / 4) 0) >>> ((24 - 8 * (e % 4) : Nat) : Int).toNat).setWidth 8) Qy Y0 rfl rfl m133.h0 sD (.inl (Nat.zero_le _))) fun w135 m135 => ?_
    refine Zv (Qh (Qb ?_))
    refine Ya s20 <| Qd (Zg (b := 1) rfl rfl oM oM) <| Zz (i64 ((e : Int) + 1)) <| rN ?_
    exact ⟨⟨e + 1, oM, s0, s2, s3, s4, s5, s6, s7, s8, s19, rfl, s30, s39, s55, (by rw [← Ew (fun q => ([h0, h1, h2, h3, h4, h5, h6, h7].getD (q / 4) 0 >>> (24 - 8 * (q % 4))).setWidth 8) (0 : BitVec 8) (n := 32) (k := e) oM _ rfl]; exact m135)⟩, Uo rfl z20 oM oM⟩
   ·
    have hc134p := of_decide_eq_false hc134
    obtain rfl : e = 32 := by omega
    have hfl := Kz (fun q => ([h0, h1, h2, h3, h4, h5, h6, h7].getD (q / 4) 0 >>> (24 - 8 * (q % 4))).setWidth 8) (0 : BitVec 8) 32 32 oM
    refine X6 ?_
    refine Qm (Qm (Xi ?_))
    refine sR <| Qd (Qp Xq rfl Zl s19 m133.h0 sZ) <| Vk (Qj (f := u8) (l := Y1 (fun q => ([h0, h1, h2, h3, h4, h5, h6, h7].getD (q / 4) 0 >>> (24 - 8 * (q % 4))).setWidth 8) 0 32 32) Qy Zl s2 rfl sD ((Mem.pick2 [_, _, _] Hs36 [_] _ m133)).h0 sZ rfl) ?_
    rintro _ w136 uq136
    have m136 : Mem _ _ ([_, _, _, _] ++ (Hs36 ++ ([]))) := Mem.upd0 (Mem.pick2 [_, _, _] Hs36 [_] _ m133) uq136
    refine rN (Xb ?_)
    refine Qv [(agg u8 (Y1 (fun q => ([h0, h1, h2, h3, h4, h5, h6, h7].getD (q / 4) 0 >>> (24 - 8 * (q % 4))).setWidth 8) 0 32 32))] ⟨⟨_, s2, Xr Xq rfl Zl m136.h0 sZ⟩, trivial⟩ ?_
    exact ⟨congrArg (agg u8) ((show Y1 (fun q => ([h0, h1, h2, h3, h4, h5, h6, h7].getD (q / 4) 0 >>> (24 - 8 * (q % 4))).setWidth 8) 0 32 32 = Qch [h0, h1, h2, h3, h4, h5, h6, h7] from rfl).trans (by rw [hh, hMM, pad_same]; exact (sum_flat l).symm)), m136.toExt⟩
end Go.Proofs.YtkmiemlpfkfiiaaDoor
