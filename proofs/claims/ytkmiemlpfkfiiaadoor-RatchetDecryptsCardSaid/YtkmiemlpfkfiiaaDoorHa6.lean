/- Contracts: the document's hash. Conditions: none beyond those that each theorem states. -/
import Derived.Test.YtkmiemlpfkfiiaaDoorHa5
namespace Go.Proofs.YtkmiemlpfkfiiaaDoor
open Tryd
set_option linter.unusedVariables false
set_option linter.unusedSimpArgs false
def Y7 (x : BitVec 32) (n : Int) : BitVec 32 := x >>> n.toNat ||| x <<< (32 - n).toNat
theorem shl8_add (x : BitVec 32) (y : BitVec 8) : x * 256#32 + y.setWidth 32 = x <<< 8 ||| y.setWidth 32 := by
 have e : x <<< 8 = x * 256#32 := by rw [BitVec.shiftLeft_eq_mul_twoPow]; rfl
 rw [← e]
 refine BitVec.add_eq_or_of_and_eq_zero _ _ ?_
 apply BitVec.eq_of_getLsbD_eq
 intro i hi
 simp only [BitVec.getLsbD_and, BitVec.getLsbD_shiftLeft, BitVec.getLsbD_setWidth, BitVec.getLsbD_zero]
 by_cases h : i < 8
 ·simp [h]
 rw [BitVec.getLsbD_of_ge y i oM]; simp
theorem rr (x : BitVec 32) : Y7 x 2 = Q8 x (-2) ∧ Y7 x 6 = Q8 x (-6) ∧ Y7 x 7 = Q8 x (-7) ∧ Y7 x 11 = Q8 x (-11) ∧ Y7 x 13 = Q8 x (-13) ∧ Y7 x 17 = Q8 x (-17) ∧ Y7 x 18 = Q8 x (-18) ∧ Y7 x 19 = Q8 x (-19) ∧ Y7 x 22 = Q8 x (-22) ∧ Y7 x 25 = Q8 x (-25) := by
 refine ⟨?_, ?_, ?_, ?_, ?_, ?_, ?_, ?_, ?_, ?_⟩ <;> (unfold Y7 Q8; rw [BitVec.or_comm]; rfl)
theorem Qlw (l : Z8) (k : Nat) (h : k < 16) (a b c d : BitVec 8) (ha : a = l.getD (4 * k) 0) (hb : b = l.getD (4 * k + 1) 0) (hc : c = l.getD (4 * k + 2) 0) (hd : d = l.getD (4 * k + 3) 0) (w : List (BitVec 32)) (hw : w = Wx l k) :
  (((w.set k (w.getD k 0 * 256#32 + a.setWidth 32)).set k ((w.set k (w.getD k 0 * 256#32 + a.setWidth 32)).getD k 0 * 256#32 + b.setWidth 32)).set k
   (((w.set k (w.getD k 0 * 256#32 + a.setWidth 32)).set k ((w.set k (w.getD k 0 * 256#32 + a.setWidth 32)).getD k 0 * 256#32 + b.setWidth 32)).getD k 0 * 256#32 + c.setWidth 32)).set k
   ((((w.set k (w.getD k 0 * 256#32 + a.setWidth 32)).set k ((w.set k (w.getD k 0 * 256#32 + a.setWidth 32)).getD k 0 * 256#32 + b.setWidth 32)).set k
   (((w.set k (w.getD k 0 * 256#32 + a.setWidth 32)).set k ((w.set k (w.getD k 0 * 256#32 + a.setWidth 32)).getD k 0 * 256#32 + b.setWidth 32)).getD k 0 * 256#32 + c.setWidth 32)).getD k 0 * 256#32 + d.setWidth 32) = Wx l (k + 1) := by
 simp only [shl8_add]
 exact Qhe l k h a b c d ha hb hc hd w hw
theorem Qna (l : Z8) (k : Nat) (h : ¬ k < 16) (h2 : k < 64) (w : List (BitVec 32)) (hw : w = Wx l k) :
  w.set k (((((Y7 (w.getD (k - 2) 0) 17 ^^^ Y7 (w.getD (k - 2) 0) 19) ^^^ (w.getD (k - 2) 0) >>> 10) + w.getD (k - 7) 0) + ((Y7 (w.getD (k - 15) 0) 7 ^^^ Y7 (w.getD (k - 15) 0) 18) ^^^ (w.getD (k - 15) 0) >>> 3)) + w.getD (k - 16) 0) = Wx l (k + 1) := by
 subst hw
 simp only [Wx]
 congr 1
 unfold Qdt
 rw [if_neg h]
 simp only [rr]
 ac_rfl
theorem rndR (w t a z c e f g h k : BitVec 32) :
  [((((k + ((Y7 f 6 ^^^ Y7 f 11) ^^^ Y7 f 25)) + ((f &&& g) ^^^ (~~~f &&& h))) + t) + w) + (((Y7 a 2 ^^^ Y7 a 13) ^^^ Y7 a 22) + (((a &&& z) ^^^ (a &&& c)) ^^^ (z &&& c))), a, z, c,
   e + ((((k + ((Y7 f 6 ^^^ Y7 f 11) ^^^ Y7 f 25)) + ((f &&& g) ^^^ (~~~f &&& h))) + t) + w), f, g, h] = rnd w t [a, z, c, e, f, g, h, k] := by
 simp only [rnd, rr]
 have e1 : ((((k + ((Q8 f (-6) ^^^ Q8 f (-11)) ^^^ Q8 f (-25))) + ((f &&& g) ^^^ (~~~f &&& h))) + t) + w) = ((((k + w) + t) + ((f &&& g) ^^^ (~~~f &&& h))) + ((Q8 f (-6) ^^^ Q8 f (-11)) ^^^ Q8 f (-25))) := by ac_rfl
 have e2 : (((Q8 a (-2) ^^^ Q8 a (-13)) ^^^ Q8 a (-22)) + (((a &&& z) ^^^ (a &&& c)) ^^^ (z &&& c))) = ((((a &&& z) ^^^ (a &&& c)) ^^^ (z &&& c)) + ((Q8 a (-2) ^^^ Q8 a (-13)) ^^^ Q8 a (-22))) := by ac_rfl
 rw [e1, e2]
theorem sum_flat (l : Z8) : U4 l = Qcs (hAt Qcd (l ++ padP (0#64 + BitVec.ofInt 64 (l.length : Int)) (l.length % 64)) ((l ++ padP (0#64 + BitVec.ofInt 64 (l.length : Int)) (l.length % 64)).length / 64)) := by
 unfold U4 Dn
 have e : (l.drop (64 * (l.length / 64))).length = l.length % 64 := by simp; omega
 rw [e]
 generalize padP (0#64 + BitVec.ofInt 64 (l.length : Int)) (l.length % 64) = p
 congr 1
 have e0 : l.drop (64 * (l.length / 64)) ++ p = (l ++ p).drop (64 * (l.length / 64)) := by rw [List.drop_append_of_le_length oM]
 have e2 : l.length / 64 + (l.drop (64 * (l.length / 64)) ++ p).length / 64 = (l ++ p).length / 64 := by simp; omega
 rw [← e2, ← Qnz Qcd l p (l.length / 64) oM, e0, Qqr]
def padR (n : BitVec 64) (z : Nat) : Z8 := 128#8 :: (List.replicate z 0#8 ++ [(n >>> 56).setWidth 8, (n >>> 48).setWidth 8, (n >>> 40).setWidth 8, (n >>> 32).setWidth 8, (n >>> 24).setWidth 8, (n >>> 16).setWidth 8, (n >>> 8).setWidth 8, (n >>> 0).setWidth 8])
theorem pad_same (l : Z8) : padR (BitVec.ofInt 64 (l.length : Int) * 8#64) ((119 - l.length % 64) % 64) = padP (0#64 + BitVec.ofInt 64 (l.length : Int)) (l.length % 64) := by
 unfold padR padP lenB
 have e : ∀ x : BitVec 64, x * 8#64 = (0#64 + x) <<< 3 := fun x => by rw [BitVec.zero_add, BitVec.shiftLeft_eq_mul_twoPow]; rfl
 rw [e]
theorem Qfy (M : Z8) (m i : Nat) (h : i < 64) (hm : 64 * m + 64 ≤ M.length) : M.getD (64 * m + i) 0 = ((M.drop (64 * m)).take 64).getD i 0 := by
 simp only [List.getD_eq_getElem?_getD, List.getElem?_take, if_pos h, List.getElem?_drop]
theorem hAt_zero (h : List (BitVec 32)) (l : Z8) : hAt h l 0 = h := rfl
theorem hAt_succ (h : List (BitVec 32)) (l : Z8) (m : Nat) : hAt h l (m + 1) = Qhc (hAt h l m) ((l.drop (64 * m)).take 64) := rfl
theorem Qlx (l : Z8) : Wx l 0 = List.replicate 64 0 := rfl
theorem Qnf (wl s : List (BitVec 32)) : Qap wl 0 s = s := rfl
theorem Qng (wl s : List (BitVec 32)) (k : Nat) : Qap wl (k + 1) s = rnd (wl.getD k 0) (Ed.getD k 0) (Qap wl k s) := rfl
theorem Qm9 (l : Z8) (i : Nat) : ∀ k, i < k → (Wx l k).getD i 0 = (Wx l (i + 1)).getD i 0 := by
 intro k
 induction k with
 | zero => intro h; omega
 | succ k ih =>
  intro h
  rcases Nat.lt_or_ge i k with h1 | h1
  ·rw [← ih h1]
   simp only [Wx, List.getD_eq_getElem?_getD, List.getElem?_set]
   rw [if_neg oM]
  have : i = k := by omega
  subst this; rfl
theorem Qm8 (l : Z8) (i : Nat) (h : i < 64) : (Wx l (i + 1)).getD i 0 = (Du l).getD i 0 := (Qm9 l i 64 h).symm
attribute [local irreducible] U4 hAt Qhc Du Qap Wx rnd
theorem Lu (x : BitVec 32) (k : Int) (w0 : World)  (h0 : 0 ≤ k) (h1 : k ≤ 32) : X0 prog 106 #[(u32 x), (i64 k)] w0 (fun r w1 => r = (u32 (Y7 x k)) ∧ Ext w0 w1) := by
 refine Qy (args := [(u32 x), (i64 k)]) func106 rfl ntmps106 results106 rfl ?_
 have m0 : Mem w0 (Qr w0) [] := Mem.of_world w0
 refine sR <| Zx (u32 0#32) ?_
 refine rN (Qa ?_)
 refine Xg (dl 7) 7 Xo <| J8 rfl (u32 x) <| J8 rfl (i64 k) <| X6 rfl (Un rfl rfl oM) <| J8 rfl (u32 x) <| J8 rfl (i64 k) <| X6 rfl (Yf (a := 32) rfl rfl oM oM) <| X6 rfl (Fz rfl rfl oM) <| Gf m0 fun w1 m1 => Qd (Dz rfl rfl) <| Zx (u32 ((x >>> k.toNat) ||| (x <<< (32 - k).toNat))) ?_
 refine rN (Zz ?_)
 refine Qp [(u32 ((x >>> k.toNat) ||| (x <<< (32 - k).toNat)))] ⟨rfl, trivial⟩ ?_
 exact ⟨rfl, m1.toExt⟩
theorem c_table  (w0 : World)   : X0 prog 105 #[] w0 (fun r w1 => r = (agg u32 Ed) ∧ Ext w0 w1) := by
 refine Qy (args := []) func105 rfl ntmps105 results105 rfl ?_
 have m0 : Mem w0 (Qr w0) [] := Mem.of_world w0
 refine sR <| Y9 (Q7 m0 Qbw) fun w1 b0 m1 => ?_
 refine rN (sR ?_)
 refine Qd (Gi u32 [1116352408#32, 1899447441#32, 3049323471#32, 3921009573#32, 961987163#32, 1508970993#32, 2453635748#32, 2870763221#32, 3624381080#32, 310598401#32, 607225278#32, 1426881987#32, 1925078388#32, 2162078206#32, 2614888103#32, 3248222580#32, 3835390401#32, 4022224774#32, 264347078#32, 604807628#32, 770255983#32, 1249150122#32, 1555081692#32, 1996064986#32, 2554220882#32, 2821834349#32, 2952996808#32, 3210313671#32, 3336571891#32, 3584528711#32, 113926993#32, 338241895#32, 666307205#32, 773529912#32, 1294757372#32, 1396182291#32, 1695183700#32, 1986661051#32, 2177026350#32, 2456956037#32, 2730485921#32, 2820302411#32, 3259730800#32, 3345764771#32, 3516065817#32, 3600352804#32, 4094571909#32, 275423344#32, 430227734#32, 506948616#32, 659060556#32, 883997877#32, 958139571#32, 1322822218#32, 1537002063#32, 1747873779#32, 1955562222#32, 2024104815#32, 2227730452#32, 2361852424#32, 2428436474#32, 2756734187#32, 3204031479#32, 3329325298#32] Xb Qbw Gm Ze rfl rfl) <| Ye m1 (Qg (f := u32) (l := [1116352408#32, 1899447441#32, 3049323471#32, 3921009573#32, 961987163#32, 1508970993#32, 2453635748#32, 2870763221#32, 3624381080#32, 310598401#32, 607225278#32, 1426881987#32, 1925078388#32, 2162078206#32, 2614888103#32, 3248222580#32, 3835390401#32, 4022224774#32, 264347078#32, 604807628#32, 770255983#32, 1249150122#32, 1555081692#32, 1996064986#32, 2554220882#32, 2821834349#32, 2952996808#32, 3210313671#32, 3336571891#32, 3584528711#32, 113926993#32, 338241895#32, 666307205#32, 773529912#32, 1294757372#32, 1396182291#32, 1695183700#32, 1986661051#32, 2177026350#32, 2456956037#32, 2730485921#32, 2820302411#32, 3259730800#32, 3345764771#32, 3516065817#32, 3600352804#32, 4094571909#32, 275423344#32, 430227734#32, 506948616#32, 659060556#32, 883997877#32, 958139571#32, 1322822218#32, 1537002063#32, 1747873779#32, 1955562222#32, 2024104815#32, 2227730452#32, 2361852424#32, 2428436474#32, 2756734187#32, 3204031479#32, 3329325298#32]) Xb Qbw rfl rfl sD m1.h0 sZ rfl) fun w2 m2 => ?_
 refine rN (Zz ?_)
 refine Qp [(agg u32 ([1116352408#32, 1899447441#32, 3049323471#32, 3921009573#32, 961987163#32, 1508970993#32, 2453635748#32, 2870763221#32, 3624381080#32, 310598401#32, 607225278#32, 1426881987#32, 1925078388#32, 2162078206#32, 2614888103#32, 3248222580#32, 3835390401#32, 4022224774#32, 264347078#32, 604807628#32, 770255983#32, 1249150122#32, 1555081692#32, 1996064986#32, 2554220882#32, 2821834349#32, 2952996808#32, 3210313671#32, 3336571891#32, 3584528711#32, 113926993#32, 338241895#32, 666307205#32, 773529912#32, 1294757372#32, 1396182291#32, 1695183700#32, 1986661051#32, 2177026350#32, 2456956037#32, 2730485921#32, 2820302411#32, 3259730800#32, 3345764771#32, 3516065817#32, 3600352804#32, 4094571909#32, 275423344#32, 430227734#32, 506948616#32, 659060556#32, 883997877#32, 958139571#32, 1322822218#32, 1537002063#32, 1747873779#32, 1955562222#32, 2024104815#32, 2227730452#32, 2361852424#32, 2428436474#32, 2756734187#32, 3204031479#32, 3329325298#32]))] ⟨⟨_, rfl, Xn Gm rfl Qbw m2.h0 sZ⟩, trivial⟩ ?_
 exact ⟨rfl, m2.toExt⟩
set_option maxHeartbeats 4000000 in
theorem Qpz (vb : Value) (l : Z8) (w0 : World)  (hr : Rd (Y8 w0) u8 vb l) (hl : l.length ≤ 35184372088832) : X0 prog 91 #[vb] w0 (fun r w1 => r = (agg u8 (U4 l)) ∧ Ext w0 w1) := by
 refine Qy (args := [vb]) func91 rfl ntmps91 results91 rfl ?_
 have m0 : Mem w0 (Qr w0) [] := Mem.of_world w0
 refine sR <| Y9 (Q7 m0 Zg) fun w1 b2 m1 => ?_
 refine rN (sR ?_)
 refine Y9 (Qq u8 [] Qs m1 Zo Yw rfl (by simp [Ce]) rfl) fun w2 b21 m2 => Zm vb <| Vw (Xf (f := u8) (Hs := [(b21, .cells (cl u8 ([])) 5 (0, 0))]) (H := [_]) m2 (Z5.of u8 5 b21 ([])) rfl rfl (Rd.ofRest hr m2) Zo Zo Yw rfl Qs sD sD) ?_
 rintro sv3 w3 ⟨Hs3, m3, g3⟩
 replace g3 : Z5 u8 5 sv3 l Hs3 := g3
 refine Zx sv3 ?_
 refine rN (sR ?_)
 refine Zm sv3 <| Y9 (Qq u8 [128#8] Qs m3 Zo Yw rfl rfl rfl) fun w4 b25 m4 => Vw (Xf (f := u8) (Hs := Hs3) (H := [_, _]) (Mem.pick [_] Hs3 _ m4) g3 rfl rfl (Rd.mkA m4.h0) Zo Zo Yw rfl Qs sD sD) ?_
 rintro sv5 w5 ⟨Hs5, m5, g5⟩
 replace g5 : Z5 u8 5 sv5 (l ++ ([128#8])) Hs5 := g5
 refine Zx sv5 ?_
 refine rN (Qa (Qh ?_))
 refine Y1 (fun g wv => ∃ (k : Nat) (pl : Z8) (sp : Value) (Hp : List (Nat × Obj)), (k ≤ ((119 - l.length % 64) % 64)) ∧ (pl = l ++ 128#8 :: List.replicate k 0#8) ∧ (Z5 u8 5 sp pl Hp) ∧ g 0 = vb ∧ g 2 = (ptr b2 0) ∧ g 3 = sp ∧ Mem wv (Qr w0) (Hp ++ ([(b25, .cells (cl u8 ([128#8])) 5 (0, 0)), (b2, .cells (cl u8 (List.replicate 32 0)) 23 (0, 0))]))) (fun g wv => l.length + ((119 - l.length % 64) % 64) + 2 - sllen (g 3)) ?_ ?_
 ·exact ⟨0, l ++ ([128#8]), sv5, Hs5, oM, Ya, g5, rfl, rfl, rfl, m5⟩
 rintro fr6 w7 ⟨k, pl, sp, Hp, hk, hpl, gp, s0, s2, s3, m7⟩
 have z3 := s3
 have hpn : pl.length = l.length + 1 + k := by rw [hpl]; simp; omega
 refine Qa (sR ?_)
 refine Yb s3 <| Qd (Yk (gp.rd m7) Zo rfl) <| Qd (W9 (b := 64) rfl rfl oM oM oM) <| Qd (We (b := 56) rfl rfl) <| rN ?_
 refine Zy rfl (fun hc8 => ?_) (fun hc8 => ?_)
 ·
  have hc8p := bne_iff_ne.1 hc8
  refine Qn (Qc (V8 (Qb ?_)))
  refine Yb s3 <| Y9 (Qq u8 [0#8] Qs m7 Zo Yw rfl rfl rfl) fun w9 b32 m9 => Vw (Xf (f := u8) (Hs := Hp) (H := [_, _, _]) (Mem.pick [_] Hp _ m9) gp rfl rfl (Rd.mkA m9.h0) Zo Zo Yw rfl Qs sD sD) ?_
  rintro sv10 w10 ⟨Hs10, m10, g10⟩
  replace g10 : Z5 u8 5 sv10 (pl ++ ([0#8])) Hs10 := g10
  refine Zx sv10 ?_
  refine Zp (Qe (Qc ?_))
  have m11 := Mem.drop [_] _ (Mem.pick Hs10 [_] _ m10)
  exact ⟨⟨k + 1, pl ++ ([0#8]), sv10, Hs10, oM, (by rw [hpl, List.replicate_succ']; simp), g10, s0, s2, rfl, m11⟩, (by show l.length + ((119 - l.length % 64) % 64) + 2 - sllen sv10 < l.length + ((119 - l.length % 64) % 64) + 2 - sllen _; rw [z3, gp.sllen, Z5.sllen g10]; simp [hpn]; omega)⟩
 ·
  have hc8p := X3 hc8
  have hpn : pl.length = l.length + 1 + k := by rw [hpl]; simp; omega
  obtain rfl : k = ((119 - l.length % 64) % 64) := by omega
  subst hpl
  refine X4 ?_
  refine Qj (Qj (Xi ?_))
  refine sR <| Yb s0 <| Qd (Yk (Rd.ofRest hr m7) Zo rfl) <| Qd (Jl ⟨_, Uu⟩ Yj rfl) <| Qd (Dc (b := 8#64) rfl rfl) <| Zx (u64 ((BitVec.ofInt 64 (l.length : Int)) * 8#64)) ?_
  refine rN (Qa (sR ?_))
  refine Zx (i64 7) ?_
  refine rN (Qh ?_)
  refine Vo 9 ?_
  refine Zq (Qa (sR ?_))
  refine Zm (i64 7) <| Qd (Ur 7 0) <| rN ?_
  have m12 := Mem.drop [_] _ (Mem.pick Hp [_] _ m7)
  refine Q9 rfl Jb ?_
  refine Qn (Qc (Qa (Qh (Qb ?_))))
  refine Yb s3 <| Zm (u64 ((BitVec.ofInt 64 (l.length : Int)) * 8#64)) <| Zm (i64 7) <| Qd (v := (i64 56)) (Vx 8 7) <| Qd (X9 (b := 56) rfl rfl oM) <| Qd (X7 ⟨_, Yj⟩ Vs rfl) <| Y9 (Qq u8 [(((BitVec.ofInt 64 (l.length : Int)) * 8#64) >>> 56).setWidth 8] Qs m12 Zo Yw rfl rfl rfl) fun w13 b48 m13 => Vw (Xf (f := u8) (Hs := Hp) (H := [_, _]) (Mem.pick [_] Hp _ m13) gp rfl rfl (Rd.mkA m13.h0) Zo Zo Yw rfl Qs sD sD) ?_
  rintro sv14 w14 ⟨Hs14, m14, g14⟩
  replace g14 : Z5 u8 5 sv14 ((l ++ 128#8 :: List.replicate ((119 - l.length % 64) % 64) 0#8) ++ ([(((BitVec.ofInt 64 (l.length : Int)) * 8#64) >>> 56).setWidth 8])) Hs14 := g14
  refine Zx sv14 ?_
  refine Zp (Qe (Qb ?_))
  refine Zm (i64 7) <| Qd (v := (i64 6)) (V4 7 1) <| Zx (i64 6) ?_
  refine rN (Zq (Qa (sR ?_)))
  refine Zm (i64 6) <| Qd (Ur 6 0) <| rN ?_
  have m15 := Mem.drop [_] _ (Mem.pick Hs14 [_] _ m14)
  refine Q9 rfl Jb ?_
  refine Qn (Qc (Qa (Qh (Qb ?_))))
  refine Zm sv14 <| Zm (u64 ((BitVec.ofInt 64 (l.length : Int)) * 8#64)) <| Zm (i64 6) <| Qd (v := (i64 48)) (Vx 8 6) <| Qd (X9 (b := 48) rfl rfl oM) <| Qd (X7 ⟨_, Yj⟩ Vs rfl) <| Y9 (Qq u8 [(((BitVec.ofInt 64 (l.length : Int)) * 8#64) >>> 48).setWidth 8] Qs m15 Zo Yw rfl rfl rfl) fun w16 b48_1 m16 => Vw (Xf (f := u8) (Hs := Hs14) (H := [_, _]) (Mem.pick [_] Hs14 _ m16) g14 rfl rfl (Rd.mkA m16.h0) Zo Zo Yw rfl Qs sD sD) ?_
  rintro sv17 w17 ⟨Hs17, m17, g17⟩
  replace g17 : Z5 u8 5 sv17 (((l ++ 128#8 :: List.replicate ((119 - l.length % 64) % 64) 0#8) ++ ([(((BitVec.ofInt 64 (l.length : Int)) * 8#64) >>> 56).setWidth 8])) ++ ([(((BitVec.ofInt 64 (l.length : Int)) * 8#64) >>> 48).setWidth 8])) Hs17 := g17
  refine Zx sv17 ?_
  refine Zp (Qe (Qb ?_))
  refine Zm (i64 6) <| Qd (v := (i64 5)) (V4 6 1) <| Zx (i64 5) ?_
  refine rN (Zq (Qa (sR ?_)))
  refine Zm (i64 5) <| Qd (Ur 5 0) <| rN ?_
  have m18 := Mem.drop [_] _ (Mem.pick Hs17 [_] _ m17)
  refine Q9 rfl Jb ?_
  refine Qn (Qc (Qa (Qh (Qb ?_))))
  refine Zm sv17 <| Zm (u64 ((BitVec.ofInt 64 (l.length : Int)) * 8#64)) <| Zm (i64 5) <| Qd (v := (i64 40)) (Vx 8 5) <| Qd (X9 (b := 40) rfl rfl oM) <| Qd (X7 ⟨_, Yj⟩ Vs rfl) <| Y9 (Qq u8 [(((BitVec.ofInt 64 (l.length : Int)) * 8#64) >>> 40).setWidth 8] Qs m18 Zo Yw rfl rfl rfl) fun w19 b48_2 m19 => Vw (Xf (f := u8) (Hs := Hs17) (H := [_, _]) (Mem.pick [_] Hs17 _ m19) g17 rfl rfl (Rd.mkA m19.h0) Zo Zo Yw rfl Qs sD sD) ?_
  rintro sv20 w20 ⟨Hs20, m20, g20⟩
  replace g20 : Z5 u8 5 sv20 ((((l ++ 128#8 :: List.replicate ((119 - l.length % 64) % 64) 0#8) ++ ([(((BitVec.ofInt 64 (l.length : Int)) * 8#64) >>> 56).setWidth 8])) ++ ([(((BitVec.ofInt 64 (l.length : Int)) * 8#64) >>> 48).setWidth 8])) ++ ([(((BitVec.ofInt 64 (l.length : Int)) * 8#64) >>> 40).setWidth 8])) Hs20 := g20
  refine Zx sv20 ?_
  refine Zp (Qe (Qb ?_))
  refine Zm (i64 5) <| Qd (v := (i64 4)) (V4 5 1) <| Zx (i64 4) ?_
  refine rN (Zq (Qa (sR ?_)))
  refine Zm (i64 4) <| Qd (Ur 4 0) <| rN ?_
  have m21 := Mem.drop [_] _ (Mem.pick Hs20 [_] _ m20)
  refine Q9 rfl Jb ?_
  refine Qn (Qc (Qa (Qh (Qb ?_))))
  refine Zm sv20 <| Zm (u64 ((BitVec.ofInt 64 (l.length : Int)) * 8#64)) <| Zm (i64 4) <| Qd (v := (i64 32)) (Vx 8 4) <| Qd (X9 (b := 32) rfl rfl oM) <| Qd (X7 ⟨_, Yj⟩ Vs rfl) <| Y9 (Qq u8 [(((BitVec.ofInt 64 (l.length : Int)) * 8#64) >>> 32).setWidth 8] Qs m21 Zo Yw rfl rfl rfl) fun w22 b48_3 m22 => Vw (Xf (f := u8) (Hs := Hs20) (H := [_, _]) (Mem.pick [_] Hs20 _ m22) g20 rfl rfl (Rd.mkA m22.h0) Zo Zo Yw rfl Qs sD sD) ?_
  rintro sv23 w23 ⟨Hs23, m23, g23⟩
  replace g23 : Z5 u8 5 sv23 (((((l ++ 128#8 :: List.replicate ((119 - l.length % 64) % 64) 0#8) ++ ([(((BitVec.ofInt 64 (l.length : Int)) * 8#64) >>> 56).setWidth 8])) ++ ([(((BitVec.ofInt 64 (l.length : Int)) * 8#64) >>> 48).setWidth 8])) ++ ([(((BitVec.ofInt 64 (l.length : Int)) * 8#64) >>> 40).setWidth 8])) ++ ([(((BitVec.ofInt 64 (l.length : Int)) * 8#64) >>> 32).setWidth 8])) Hs23 := g23
  refine Zx sv23 ?_
  refine Zp (Qe (Qb ?_))
  refine Zm (i64 4) <| Qd (v := (i64 3)) (V4 4 1) <| Zx (i64 3) ?_
  refine rN (Zq (Qa (sR ?_)))
  refine Zm (i64 3) <| Qd (Ur 3 0) <| rN ?_
  have m24 := Mem.drop [_] _ (Mem.pick Hs23 [_] _ m23)
  refine Q9 rfl Jb ?_
  refine Qn (Qc (Qa (Qh (Qb ?_))))
  refine Zm sv23 <| Zm (u64 ((BitVec.ofInt 64 (l.length : Int)) * 8#64)) <| Zm (i64 3) <| Qd (v := (i64 24)) (Vx 8 3) <| Qd (X9 (b := 24) rfl rfl oM) <| Qd (X7 ⟨_, Yj⟩ Vs rfl) <| Y9 (Qq u8 [(((BitVec.ofInt 64 (l.length : Int)) * 8#64) >>> 24).setWidth 8] Qs m24 Zo Yw rfl rfl rfl) fun w25 b48_4 m25 => Vw (Xf (f := u8) (Hs := Hs23) (H := [_, _]) (Mem.pick [_] Hs23 _ m25) g23 rfl rfl (Rd.mkA m25.h0) Zo Zo Yw rfl Qs sD sD) ?_
  rintro sv26 w26 ⟨Hs26, m26, g26⟩
  replace g26 : Z5 u8 5 sv26 ((((((l ++ 128#8 :: List.replicate ((119 - l.length % 64) % 64) 0#8) ++ ([(((BitVec.ofInt 64 (l.length : Int)) * 8#64) >>> 56).setWidth 8])) ++ ([(((BitVec.ofInt 64 (l.length : Int)) * 8#64) >>> 48).setWidth 8])) ++ ([(((BitVec.ofInt 64 (l.length : Int)) * 8#64) >>> 40).setWidth 8])) ++ ([(((BitVec.ofInt 64 (l.length : Int)) * 8#64) >>> 32).setWidth 8])) ++ ([(((BitVec.ofInt 64 (l.length : Int)) * 8#64) >>> 24).setWidth 8])) Hs26 := g26
  refine Zx sv26 ?_
  refine Zp (Qe (Qb ?_))
  refine Zm (i64 3) <| Qd (v := (i64 2)) (V4 3 1) <| Zx (i64 2) ?_
  refine rN (Zq (Qa (sR ?_)))
  refine Zm (i64 2) <| Qd (Ur 2 0) <| rN ?_
  have m27 := Mem.drop [_] _ (Mem.pick Hs26 [_] _ m26)
  refine CW.abs (fun g => g 0 = vb ∧ g 2 = (ptr b2 0) ∧ g 3 = sv26 ∧ g 4 = (u64 ((BitVec.ofInt 64 (l.length : Int)) * 8#64)) ∧ g 5 = (i64 2) ∧ g 30 = (bl ((((l ++ 128#8 :: List.replicate ((119 - l.length % 64) % 64) 0#8).length : Int) % 64) != 56)) ∧ g 39 = (bl true) ∧ True) ⟨s0, s2, rfl, rfl, rfl, rfl, rfl, trivial⟩ ?_
  rintro fr28 ⟨s0, s2, s3, s4, s5, s30, s39, _⟩
  refine Q9 s39 Jb ?_
  refine Qn (Qc (Qa (Qh (Qb ?_))))
  refine Yb s3 <| Yb s4 <| Yb s5 <| Qd (v := (i64 16)) (Vx 8 2) <| Qd (X9 (b := 16) rfl rfl oM) <| Qd (X7 ⟨_, Yj⟩ Vs rfl) <| Y9 (Qq u8 [(((BitVec.ofInt 64 (l.length : Int)) * 8#64) >>> 16).setWidth 8] Qs m27 Zo Yw rfl rfl rfl) fun w29 b48_5 m29 => Vw (Xf (f := u8) (Hs := Hs26) (H := [_, _]) (Mem.pick [_] Hs26 _ m29) g26 rfl rfl (Rd.mkA m29.h0) Zo Zo Yw rfl Qs sD sD) ?_
  rintro sv30 w30 ⟨Hs30, m30, g30⟩
  replace g30 : Z5 u8 5 sv30 (((((((l ++ 128#8 :: List.replicate ((119 - l.length % 64) % 64) 0#8) ++ ([(((BitVec.ofInt 64 (l.length : Int)) * 8#64) >>> 56).setWidth 8])) ++ ([(((BitVec.ofInt 64 (l.length : Int)) * 8#64) >>> 48).setWidth 8])) ++ ([(((BitVec.ofInt 64 (l.length : Int)) * 8#64) >>> 40).setWidth 8])) ++ ([(((BitVec.ofInt 64 (l.length : Int)) * 8#64) >>> 32).setWidth 8])) ++ ([(((BitVec.ofInt 64 (l.length : Int)) * 8#64) >>> 24).setWidth 8])) ++ ([(((BitVec.ofInt 64 (l.length : Int)) * 8#64) >>> 16).setWidth 8])) Hs30 := g30
  refine Zx sv30 ?_
  refine Zp (Qe (Qb ?_))
  refine Yb s5 <| Qd (v := (i64 1)) (V4 2 1) <| Zx (i64 1) ?_
  refine rN (Zq (Qa (sR ?_)))
  refine Zm (i64 1) <| Qd (Ur 1 0) <| rN ?_
  have m31 := Mem.drop [_] _ (Mem.pick Hs30 [_] _ m30)
  refine Q9 rfl Jb ?_
  refine Qn (Qc (Qa (Qh (Qb ?_))))
  refine Zm sv30 <| Yb s4 <| Zm (i64 1) <| Qd (v := (i64 8)) (Vx 8 1) <| Qd (X9 (b := 8) rfl rfl oM) <| Qd (X7 ⟨_, Yj⟩ Vs rfl) <| Y9 (Qq u8 [(((BitVec.ofInt 64 (l.length : Int)) * 8#64) >>> 8).setWidth 8] Qs m31 Zo Yw rfl rfl rfl) fun w32 b48_6 m32 => Vw (Xf (f := u8) (Hs := Hs30) (H := [_, _]) (Mem.pick [_] Hs30 _ m32) g30 rfl rfl (Rd.mkA m32.h0) Zo Zo Yw rfl Qs sD sD) ?_
  rintro sv33 w33 ⟨Hs33, m33, g33⟩
  replace g33 : Z5 u8 5 sv33 ((((((((l ++ 128#8 :: List.replicate ((119 - l.length % 64) % 64) 0#8) ++ ([(((BitVec.ofInt 64 (l.length : Int)) * 8#64) >>> 56).setWidth 8])) ++ ([(((BitVec.ofInt 64 (l.length : Int)) * 8#64) >>> 48).setWidth 8])) ++ ([(((BitVec.ofInt 64 (l.length : Int)) * 8#64) >>> 40).setWidth 8])) ++ ([(((BitVec.ofInt 64 (l.length : Int)) * 8#64) >>> 32).setWidth 8])) ++ ([(((BitVec.ofInt 64 (l.length : Int)) * 8#64) >>> 24).setWidth 8])) ++ ([(((BitVec.ofInt 64 (l.length : Int)) * 8#64) >>> 16).setWidth 8])) ++ ([(((BitVec.ofInt 64 (l.length : Int)) * 8#64) >>> 8).setWidth 8])) Hs33 := g33
  refine Zx sv33 ?_
  refine Zp (Qe (Qb ?_))
  refine Zm (i64 1) <| Qd (v := (i64 0)) (V4 1 1) <| Zx (i64 0) ?_
  refine rN (Zq (Qa (sR ?_)))
  refine Zm (i64 0) <| Qd (Ur 0 0) <| rN ?_
  have m34 := Mem.drop [_] _ (Mem.pick Hs33 [_] _ m33)
  refine Q9 rfl Jb ?_
  refine Qn (Qc (Qa (Qh (Qb ?_))))
  refine Zm sv33 <| Yb s4 <| Zm (i64 0) <| Qd (v := (i64 0)) (Vx 8 0) <| Qd (X9 (b := 0) rfl rfl oM) <| Qd (X7 ⟨_, Yj⟩ Vs rfl) <| Y9 (Qq u8 [(((BitVec.ofInt 64 (l.length : Int)) * 8#64) >>> 0).setWidth 8] Qs m34 Zo Yw rfl rfl rfl) fun w35 b48_7 m35 => Vw (Xf (f := u8) (Hs := Hs33) (H := [_, _]) (Mem.pick [_] Hs33 _ m35) g33 rfl rfl (Rd.mkA m35.h0) Zo Zo Yw rfl Qs sD sD) ?_
  rintro sv36 w36 ⟨Hs36, m36, g36⟩
  replace g36 : Z5 u8 5 sv36 (((((((((l ++ 128#8 :: List.replicate ((119 - l.length % 64) % 64) 0#8) ++ ([(((BitVec.ofInt 64 (l.length : Int)) * 8#64) >>> 56).setWidth 8])) ++ ([(((BitVec.ofInt 64 (l.length : Int)) * 8#64) >>> 48).setWidth 8])) ++ ([(((BitVec.ofInt 64 (l.length : Int)) * 8#64) >>> 40).setWidth 8])) ++ ([(((BitVec.ofInt 64 (l.length : Int)) * 8#64) >>> 32).setWidth 8])) ++ ([(((BitVec.ofInt 64 (l.length : Int)) * 8#64) >>> 24).setWidth 8])) ++ ([(((BitVec.ofInt 64 (l.length : Int)) * 8#64) >>> 16).setWidth 8])) ++ ([(((BitVec.ofInt 64 (l.length : Int)) * 8#64) >>> 8).setWidth 8])) ++ ([(((BitVec.ofInt 64 (l.length : Int)) * 8#64) >>> 0).setWidth 8])) Hs36 := g36
  refine Zx sv36 ?_
  refine Zp (Qe (Qb ?_))
  refine Zm (i64 0) <| Qd (v := (i64 (-1))) (V4 0 1) <| Zx (i64 (-1)) ?_
  refine rN (Zq (Qa (sR ?_)))
  refine Zm (i64 (-1)) <| Qd (Ur (-1) 0) <| rN ?_
  have m37 := Mem.drop [_] _ (Mem.pick Hs36 [_] _ m36)
  refine Ja rfl Jb <| X4 ?_
  refine Qj (Qj (Xi ?_))
  refine Qa ?_
  have hM : ((((((((l ++ 128#8 :: List.replicate ((119 - l.length % 64) % 64) 0#8) ++ ([(((BitVec.ofInt 64 (l.length : Int)) * 8#64) >>> 56).setWidth 8])) ++ ([(((BitVec.ofInt 64 (l.length : Int)) * 8#64) >>> 48).setWidth 8])) ++ ([(((BitVec.ofInt 64 (l.length : Int)) * 8#64) >>> 40).setWidth 8])) ++ ([(((BitVec.ofInt 64 (l.length : Int)) * 8#64) >>> 32).setWidth 8])) ++ ([(((BitVec.ofInt 64 (l.length : Int)) * 8#64) >>> 24).setWidth 8])) ++ ([(((BitVec.ofInt 64 (l.length : Int)) * 8#64) >>> 16).setWidth 8])) ++ ([(((BitVec.ofInt 64 (l.length : Int)) * 8#64) >>> 8).setWidth 8])) ++ ([(((BitVec.ofInt 64 (l.length : Int)) * 8#64) >>> 0).setWidth 8]) = (l ++ padR (BitVec.ofInt 64 (l.length : Int) * 8#64) ((119 - l.length % 64) % 64)) := by simp [padR]
  obtain ⟨M, hMM⟩ : ∃ M, M = (l ++ padR (BitVec.ofInt 64 (l.length : Int) * 8#64) ((119 - l.length % 64) % 64)) := ⟨_, rfl⟩
  have hMl : M.length = l.length + 9 + ((119 - l.length % 64) % 64) := by rw [hMM]; simp [padR]; omega
  have hMd : M.length % 64 = 0 := by clear m0; omega
  have gM38 := g36
  rw [hM, ← hMM] at gM38
  refine Qb <| U3 m37 (oc105 (Qoh) (c_table _)) fun w39 m39 => Y9 (Q7 m39 Qbw) fun w41 b6 m41 => Ye m41 (Qg (f := u32) (l := Ed) Xb Qbw rfl rfl sD m41.h0 sZ rfl) fun w42 m42 => ?_
  refine rN (sR ?_)
  refine Qd (Gi u32 [1779033703#32, 3144134277#32, 1013904242#32, 2773480762#32, 1359893119#32, 2600822924#32, 528734635#32, 1541459225#32] Xb Uj Y5 Ze rfl rfl) <| Y9 (Q7 m42 Uj) fun w43 b7 m43 => Ye m43 (Qg (f := u32) (l := [1779033703#32, 3144134277#32, 1013904242#32, 2773480762#32, 1359893119#32, 2600822924#32, 528734635#32, 1541459225#32]) Xb Uj rfl rfl sD m43.h0 sZ rfl) fun w44 m44 => ?_
  refine rN (Qa (sR ?_))
  refine Zx (i64 0) ?_
  refine rN (Qh ?_)
  refine Y1 (fun g wv => ∃ (m : Nat) (h0 h1 h2 h3 h4 h5 h6 h7 : BitVec 32), (64 * m ≤ M.length) ∧ ([h0, h1, h2, h3, h4, h5, h6, h7] = hAt Qcd M m) ∧ g 0 = vb ∧ g 2 = (ptr b2 0) ∧ g 3 = sv36 ∧ g 4 = (u64 ((BitVec.ofInt 64 (l.length : Int)) * 8#64)) ∧ g 5 = (i64 (-1)) ∧ g 6 = (ptr b6 0) ∧ g 7 = (ptr b7 0) ∧ g 8 = (i64 ((64 * m : Nat) : Int)) ∧ g 30 = (bl ((((l ++ 128#8 :: List.replicate ((119 - l.length % 64) % 64) 0#8).length : Int) % 64) != 56)) ∧ g 39 = (bl false) ∧ Mem wv (Qr w0) ([(b7, .cells (cl u32 ([h0, h1, h2, h3, h4, h5, h6, h7])) 152 (0, 0)), (b6, .cells (cl u32 Ed) 160 (0, 0))] ++ (Hs36 ++ ([(b2, .cells (cl u8 (List.replicate 32 0)) 23 (0, 0))])))) (fun g wv => ((M.length : Int) - RowKit.intOf (g 8)).toNat) ?_ ?_
  ·exact ⟨0, 1779033703#32, 3144134277#32, 1013904242#32, 2773480762#32, 1359893119#32, 2600822924#32, 528734635#32, 1541459225#32, oM, (hAt_zero Qcd M).symm, s0, s2, rfl, s4, rfl, rfl, rfl, rfl, s30, rfl, m44⟩
  rintro fr45 w46 ⟨m, h0, h1, h2, h3, h4, h5, h6, h7, hm, hh, s0, s2, s3, s4, s5, s6, s7, s8, s30, s39, m46⟩
  have z8 := s8
  refine Qa (sR ?_)
  refine Yb s8 <| Yb s3 <| Qd (Yk (gM38.rd (Mem.pick [_, _] Hs36 _ m46)) Zo rfl) <| Qd (Xa rfl rfl) <| rN ?_
  refine Zy rfl (fun hc47 => ?_) (fun hc47 => ?_)
  ·
   have hc47p := of_decide_eq_true hc47
   have m64 : 64 * m + 64 ≤ M.length := by clear hMl; omega
   refine Qn (Qc (Qa (Qh (sR ?_))))
   refine Qd (Kw (ps := []) (c := (cl u32 (List.replicate 64 0))) Qbw Gm Ze Ya rfl) <| Y9 (Q7 m46 Qbw) fun w48 b9 m48 => Ye m48 (Qg (f := u32) (l := List.replicate 64 0) Xb Qbw rfl rfl sD m48.h0 sZ rfl) fun w49 m49 => ?_
   refine rN (sR ?_)
   refine Qd (Qo Y5 rfl Uj s7 m49.h1 sZ) <| Y9 (Q7 m49 Uj) fun w50 b10 m50 => Ye m50 (Qg (f := u32) (l := [h0, h1, h2, h3, h4, h5, h6, h7]) Xb Uj rfl rfl sD m50.h0 sZ rfl) fun w51 m51 => ?_
   refine rN (Qa (sR ?_))
   refine Zx (i64 0) ?_
   refine rN (Qh ?_)
   refine Y1 (fun g wv => ∃ (i : Nat) (wl : List (BitVec 32)) (v0 v1 v2 v3 v4 v5 v6 v7 : BitVec 32), (i ≤ 64) ∧ (wl = Wx ((M.drop (64 * m)).take 64) i) ∧ ([v0, v1, v2, v3, v4, v5, v6, v7] = Qap (Du ((M.drop (64 * m)).take 64)) i [h0, h1, h2, h3, h4, h5, h6, h7]) ∧ g 0 = vb ∧ g 2 = (ptr b2 0) ∧ g 3 = sv36 ∧ g 4 = (u64 ((BitVec.ofInt 64 (l.length : Int)) * 8#64)) ∧ g 5 = (i64 (-1)) ∧ g 6 = (ptr b6 0) ∧ g 7 = (ptr b7 0) ∧ g 8 = (i64 ((64 * m : Nat) : Int)) ∧ g 9 = (ptr b9 0) ∧ g 10 = (ptr b10 0) ∧ g 11 = (i64 (i : Int)) ∧ g 30 = (bl ((((l ++ 128#8 :: List.replicate ((119 - l.length % 64) % 64) 0#8).length : Int) % 64) != 56)) ∧ g 39 = (bl false) ∧ g 55 = (bl (decide (((64 * m : Nat) : Int) < (M.length : Int)))) ∧ Mem wv (Qr w0) ([(b10, .cells (cl u32 ([v0, v1, v2, v3, v4, v5, v6, v7])) 152 (0, 0)), (b9, .cells (cl u32 wl) 160 (0, 0)), (b7, .cells (cl u32 ([h0, h1, h2, h3, h4, h5, h6, h7])) 152 (0, 0)), (b6, .cells (cl u32 Ed) 160 (0, 0))] ++ (Hs36 ++ ([(b2, .cells (cl u8 (List.replicate 32 0)) 23 (0, 0))])))) (fun g wv => (64 - RowKit.intOf (g 11)).toNat) ?_ ?_
   ·exact ⟨0, (List.replicate 64 0), h0, h1, h2, h3, h4, h5, h6, h7, oM, (Qlx _).symm, (Qnf _ _).symm, s0, s2, s3, s4, s5, s6, s7, s8, rfl, rfl, rfl, s30, s39, rfl, m51⟩
   rintro fr52 w53 ⟨i, wl, v0, v1, v2, v3, v4, v5, v6, v7, hi, hw, hv, s0, s2, s3, s4, s5, s6, s7, s8, s9, s10, s11, s30, s39, s55, m53⟩
   have z11 := s11
   have hwl : wl.length = 64 := by rw [hw]; simp
   refine Qa (sR ?_)
   refine Yb s11 <| Qd (Xa (b := 64) rfl rfl) <| rN ?_
   refine Zy rfl (fun hc54 => ?_) (fun hc54 => ?_)
   ·
    have hc54p := of_decide_eq_true hc54
    refine Qn (Qc (Qa (Qh (Qa (sR ?_)))))
    refine Yb s11 <| Qd (Xa (b := 16) rfl rfl) <| rN ?_
    refine H5 (J := fun g wv => ∃ (wn : List (BitVec 32)), (wn = Wx ((M.drop (64 * m)).take 64) (i + 1)) ∧ g 0 = vb ∧ g 2 = (ptr b2 0) ∧ g 3 = sv36 ∧ g 4 = (u64 ((BitVec.ofInt 64 (l.length : Int)) * 8#64)) ∧ g 5 = (i64 (-1)) ∧ g 6 = (ptr b6 0) ∧ g 7 = (ptr b7 0) ∧ g 8 = (i64 ((64 * m : Nat) : Int)) ∧ g 9 = (ptr b9 0) ∧ g 10 = (ptr b10 0) ∧ g 11 = (i64 (i : Int)) ∧ g 30 = (bl ((((l ++ 128#8 :: List.replicate ((119 - l.length % 64) % 64) 0#8).length : Int) % 64) != 56)) ∧ g 39 = (bl false) ∧ g 55 = (bl (decide (((64 * m : Nat) : Int) < (M.length : Int)))) ∧ g 61 = (bl (decide ((i : Int) < 64))) ∧ g 65 = (bl (decide ((i : Int) < 16))) ∧ Mem wv (Qr w0) ([(b10, .cells (cl u32 ([v0, v1, v2, v3, v4, v5, v6, v7])) 152 (0, 0)), (b9, .cells (cl u32 wn) 160 (0, 0)), (b7, .cells (cl u32 ([h0, h1, h2, h3, h4, h5, h6, h7])) 152 (0, 0)), (b6, .cells (cl u32 Ed) 160 (0, 0))] ++ (Hs36 ++ ([(b2, .cells (cl u8 (List.replicate 32 0)) 23 (0, 0))])))) ?_ ?_
    ·skip
     refine Zy rfl (fun hc55 => ?_) (fun hc55 => ?_)
     ·
      have hc55p := of_decide_eq_true hc55
      refine sR <| Zx (i64 0) ?_
      refine rN (V8 ?_)
      refine Vo 5 ?_
      refine Zq (Qa (sR ?_))
      refine Zm (i64 0) <| Qd (Jd 0 4) <| rN <| Q9 rfl Jb ?_
      refine Qn (Qc (Qa (Qh ?_)))
      refine Xg (dl 16) 16 Xo <| Uh rfl s11 <| Uh rfl s11 <| X6 rfl (Zl (r := i) oM Gm Ze s9 rfl oM sD) <| Ym rfl (fun _ e' => Qi Xv rfl rfl (m53.ext e').h1 (Qu _ _ 0 sD)) <| X6 rfl (Me (b := 256#32) rfl rfl) <| Uh rfl s3 <| Uh rfl s8 <| Uh rfl s11 <| X6 rfl (Kv (a := 4) rfl rfl oM oM) <| X6 rfl (Zf rfl rfl oM oM) <| J8 rfl (i64 0) ?_
      refine X6 rfl (Zf (b := 0) rfl rfl oM oM) <| Ym rfl (fun _ e' => Zt (gM38.rd (Mem.pick [_, _, _, _] Hs36 _ (m53.ext e'))) Zo Yw rfl rfl oM sD) <| Ym (v := (u8 (M.getD (((((64 * m : Nat) : Int) + (4 * (i : Int))) + 0 : Int).toNat) 0))) rfl (fun _ e' => X5 (l := M) (i := (((64 * m : Nat) : Int) + (4 * (i : Int))) + 0) (dflt := 0) (gM38.rd (Mem.pick [_, _, _, _] Hs36 _ (m53.ext e'))) Vs rfl oM sD rfl) <| X6 rfl (Ku ⟨_, Vs⟩ Xv rfl) <| X6 rfl (Xz rfl rfl) <| Gf m53 fun w56 m56 => Qd (Zl (r := i) oM Gm Ze s9 rfl oM sD) <| Vu m56 (Xx (f := u32) (a := ((wl.getD i 0) * 256#32) + ((M.getD (((((64 * m : Nat) : Int) + (4 * (i : Int))) + 0 : Int).toNat) 0).setWidth 32)) Xb Ze rfl rfl m56.h1 sD (.inl (Nat.zero_le _))) fun w57 m57 => ?_
      refine Zp (Qe (Qb ?_))
      refine Zm (i64 0) <| Qd (v := (i64 1)) (Yo 0 1) <| Zx (i64 1) ?_
      refine rN (Zq (Qa (sR ?_)))
      refine Zm (i64 1) <| Qd (Jd 1 4) <| rN <| Q9 rfl Jb ?_
      refine Qn (Qc (Qa (Qh ?_)))
      refine Xg (dl 16) 16 Xo <| Uh rfl s11 <| Uh rfl s11 <| X6 rfl (Zl (r := i) oM Gm Ze s9 rfl oM sD) <| Ym rfl (fun _ e' => Qi Xv rfl rfl (m57.ext e').h1 (Qu _ _ 0 sD)) <| X6 rfl (Me (b := 256#32) rfl rfl) <| Uh rfl s3 <| Uh rfl s8 <| Uh rfl s11 <| X6 rfl (Kv (a := 4) rfl rfl oM oM) <| X6 rfl (Zf rfl rfl oM oM) <| J8 rfl (i64 1) ?_
      refine X6 rfl (Zf (b := 1) rfl rfl oM oM) <| Ym rfl (fun _ e' => Zt (gM38.rd (Mem.pick [_, _, _, _] Hs36 _ (m57.ext e'))) Zo Yw rfl rfl oM sD) <| Ym (v := (u8 (M.getD (((((64 * m : Nat) : Int) + (4 * (i : Int))) + 1 : Int).toNat) 0))) rfl (fun _ e' => X5 (l := M) (i := (((64 * m : Nat) : Int) + (4 * (i : Int))) + 1) (dflt := 0) (gM38.rd (Mem.pick [_, _, _, _] Hs36 _ (m57.ext e'))) Vs rfl oM sD rfl) <| X6 rfl (Ku ⟨_, Vs⟩ Xv rfl) <| X6 rfl (Xz rfl rfl) <| Gf m57 fun w58 m58 => Qd (Zl (r := i) oM Gm Ze s9 rfl oM sD) <| Vu m58 (Xx (f := u32) (a := (((wl.set i (((wl.getD i 0) * 256#32) + ((M.getD (((((64 * m : Nat) : Int) + (4 * (i : Int))) + 0 : Int).toNat) 0).setWidth 32))).getD i 0) * 256#32) + ((M.getD (((((64 * m : Nat) : Int) + (4 * (i : Int))) + 1 : Int).toNat) 0).setWidth 32)) Xb Ze rfl rfl m58.h1 sD (.inl (Nat.zero_le _))) fun w59 m59 => ?_
      refine Zp (Qe (Qb ?_))
      refine Zm (i64 1) <| Qd (v := (i64 2)) (Yo 1 1) <| Zx (i64 2) ?_
      refine rN (Zq (Qa (sR ?_)))
      refine Zm (i64 2) <| Qd (Jd 2 4) <| rN <| Q9 rfl Jb ?_
      refine Qn (Qc (Qa (Qh ?_)))
      refine Xg (dl 16) 16 Xo <| Uh rfl s11 <| Uh rfl s11 <| X6 rfl (Zl (r := i) oM Gm Ze s9 rfl oM sD) <| Ym rfl (fun _ e' => Qi Xv rfl rfl (m59.ext e').h1 (Qu _ _ 0 sD)) <| X6 rfl (Me (b := 256#32) rfl rfl) <| Uh rfl s3 <| Uh rfl s8 <| Uh rfl s11 <| X6 rfl (Kv (a := 4) rfl rfl oM oM) <| X6 rfl (Zf rfl rfl oM oM) <| J8 rfl (i64 2) ?_
      refine X6 rfl (Zf (b := 2) rfl rfl oM oM) <| Ym rfl (fun _ e' => Zt (gM38.rd (Mem.pick [_, _, _, _] Hs36 _ (m59.ext e'))) Zo Yw rfl rfl oM sD) <| Ym (v := (u8 (M.getD (((((64 * m : Nat) : Int) + (4 * (i : Int))) + 2 : Int).toNat) 0))) rfl (fun _ e' => X5 (l := M) (i := (((64 * m : Nat) : Int) + (4 * (i : Int))) + 2) (dflt := 0) (gM38.rd (Mem.pick [_, _, _, _] Hs36 _ (m59.ext e'))) Vs rfl oM sD rfl) <| X6 rfl (Ku ⟨_, Vs⟩ Xv rfl) <| X6 rfl (Xz rfl rfl) <| Gf m59 fun w60 m60 => Qd (Zl (r := i) oM Gm Ze s9 rfl oM sD) <| Vu m60 (Xx (f := u32) (a := ((((wl.set i (((wl.getD i 0) * 256#32) + ((M.getD (((((64 * m : Nat) : Int) + (4 * (i : Int))) + 0 : Int).toNat) 0).setWidth 32))).set i ((((wl.set i (((wl.getD i 0) * 256#32) + ((M.getD (((((64 * m : Nat) : Int) + (4 * (i : Int))) + 0 : Int).toNat) 0).setWidth 32))).getD i 0) * 256#32) + ((M.getD (((((64 * m : Nat) : Int) + (4 * (i : Int))) + 1 : Int).toNat) 0).setWidth 32))).getD i 0) * 256#32) + ((M.getD (((((64 * m : Nat) : Int) + (4 * (i : Int))) + 2 : Int).toNat) 0).setWidth 32)) Xb Ze rfl rfl m60.h1 sD (.inl (Nat.zero_le _))) fun w61 m61 => ?_
      refine Zp (Qe (Qb ?_))
      refine Zm (i64 2) <| Qd (v := (i64 3)) (Yo 2 1) <| Zx (i64 3) ?_
      refine rN (Zq (Qa (sR ?_)))
      refine Zm (i64 3) <| Qd (Jd 3 4) <| rN <| Q9 rfl Jb ?_
      refine Qn (Qc (Qa (Qh ?_)))
      refine Xg (dl 16) 16 Xo <| Uh rfl s11 <| Uh rfl s11 <| X6 rfl (Zl (r := i) oM Gm Ze s9 rfl oM sD) <| Ym rfl (fun _ e' => Qi Xv rfl rfl (m61.ext e').h1 (Qu _ _ 0 sD)) <| X6 rfl (Me (b := 256#32) rfl rfl) <| Uh rfl s3 <| Uh rfl s8 <| Uh rfl s11 <| X6 rfl (Kv (a := 4) rfl rfl oM oM) <| X6 rfl (Zf rfl rfl oM oM) <| J8 rfl (i64 3) ?_
      refine X6 rfl (Zf (b := 3) rfl rfl oM oM) <| Ym rfl (fun _ e' => Zt (gM38.rd (Mem.pick [_, _, _, _] Hs36 _ (m61.ext e'))) Zo Yw rfl rfl oM sD) <| Ym (v := (u8 (M.getD (((((64 * m : Nat) : Int) + (4 * (i : Int))) + 3 : Int).toNat) 0))) rfl (fun _ e' => X5 (l := M) (i := (((64 * m : Nat) : Int) + (4 * (i : Int))) + 3) (dflt := 0) (gM38.rd (Mem.pick [_, _, _, _] Hs36 _ (m61.ext e'))) Vs rfl oM sD rfl) <| X6 rfl (Ku ⟨_, Vs⟩ Xv rfl) <| X6 rfl (Xz rfl rfl) <| Gf m61 fun w62 m62 => Qd (Zl (r := i) oM Gm Ze s9 rfl oM sD) <| Vu m62 (Xx (f := u32) (a := (((((wl.set i (((wl.getD i 0) * 256#32) + ((M.getD (((((64 * m : Nat) : Int) + (4 * (i : Int))) + 0 : Int).toNat) 0).setWidth 32))).set i ((((wl.set i (((wl.getD i 0) * 256#32) + ((M.getD (((((64 * m : Nat) : Int) + (4 * (i : Int))) + 0 : Int).toNat) 0).setWidth 32))).getD i 0) * 256#32) + ((M.getD (((((64 * m : Nat) : Int) + (4 * (i : Int))) + 1 : Int).toNat) 0).setWidth 32))).set i (((((wl.set i (((wl.getD i 0) * 256#32) + ((M.getD (((((64 * m : Nat) : Int) + (4 * (i : Int))) + 0 : Int).toNat) 0).setWidth 32))).set i ((((wl.set i (((wl.getD i 0) * 256#32) + ((M.getD (((((64 * m : Nat) : Int) + (4 * (i : Int))) + 0 : Int).toNat) 0).setWidth 32))).getD i 0) * 256#32) + ((M.getD (((((64 * m : Nat) : Int) + (4 * (i : Int))) + 1 : Int).toNat) 0).setWidth 32))).getD i 0) * 256#32) + ((M.getD (((((64 * m : Nat) : Int) + (4 * (i : Int))) + 2 : Int).toNat) 0).setWidth 32))).getD i 0) * 256#32) + ((M.getD (((((64 * m : Nat) : Int) + (4 * (i : Int))) + 3 : Int).toNat) 0).setWidth 32)) Xb Ze rfl rfl m62.h1 sD (.inl (Nat.zero_le _))) fun w63 m63 => ?_
      refine Zp (Qe ?_)
      refine CW.abs (fun g => g 0 = vb ∧ g 2 = (ptr b2 0) ∧ g 3 = sv36 ∧ g 4 = (u64 ((BitVec.ofInt 64 (l.length : Int)) * 8#64)) ∧ g 5 = (i64 (-1)) ∧ g 6 = (ptr b6 0) ∧ g 7 = (ptr b7 0) ∧ g 8 = (i64 ((64 * m : Nat) : Int)) ∧ g 9 = (ptr b9 0) ∧ g 10 = (ptr b10 0) ∧ g 11 = (i64 (i : Int)) ∧ g 12 = (i64 3) ∧ g 30 = (bl ((((l ++ 128#8 :: List.replicate ((119 - l.length % 64) % 64) 0#8).length : Int) % 64) != 56)) ∧ g 39 = (bl false) ∧ g 55 = (bl (decide (((64 * m : Nat) : Int) < (M.length : Int)))) ∧ g 61 = (bl (decide ((i : Int) < 64))) ∧ g 65 = (bl (decide ((i : Int) < 16))) ∧ g 67 = (bl true) ∧ True) ⟨s0, s2, s3, s4, s5, s6, s7, s8, s9, s10, s11, rfl, s30, s39, s55, rfl, rfl, rfl, trivial⟩ ?_
      rintro fr64 ⟨s0, s2, s3, s4, s5, s6, s7, s8, s9, s10, s11, s12, s30, s39, s55, s61, s65, s67, _⟩
      refine Qb <| Yb s12 <| Qd (v := (i64 4)) (Yo 3 1) <| Zx (i64 4) ?_
      refine rN (Zq (Qa (sR ?_)))
      refine Zm (i64 4) <| Qd (Jd 4 4) <| rN <| Ja rfl Jb <| X4 ?_
      refine Qj (Qj (Xi ?_))
      refine Qc ?_
      have hwn : (((wl.set i (((wl.getD i 0) * 256#32) + ((M.getD (((((64 * m : Nat) : Int) + (4 * (i : Int))) + 0 : Int).toNat) 0).setWidth 32))).set i ((((wl.set i (((wl.getD i 0) * 256#32) + ((M.getD (((((64 * m : Nat) : Int) + (4 * (i : Int))) + 0 : Int).toNat) 0).setWidth 32))).getD i 0) * 256#32) + ((M.getD (((((64 * m : Nat) : Int) + (4 * (i : Int))) + 1 : Int).toNat) 0).setWidth 32))).set i (((((wl.set i (((wl.getD i 0) * 256#32) + ((M.getD (((((64 * m : Nat) : Int) + (4 * (i : Int))) + 0 : Int).toNat) 0).setWidth 32))).set i ((((wl.set i (((wl.getD i 0) * 256#32) + ((M.getD (((((64 * m : Nat) : Int) + (4 * (i : Int))) + 0 : Int).toNat) 0).setWidth 32))).getD i 0) * 256#32) + ((M.getD (((((64 * m : Nat) : Int) + (4 * (i : Int))) + 1 : Int).toNat) 0).setWidth 32))).getD i 0) * 256#32) + ((M.getD (((((64 * m : Nat) : Int) + (4 * (i : Int))) + 2 : Int).toNat) 0).setWidth 32))).set i ((((((wl.set i (((wl.getD i 0) * 256#32) + ((M.getD (((((64 * m : Nat) : Int) + (4 * (i : Int))) + 0 : Int).toNat) 0).setWidth 32))).set i ((((wl.set i (((wl.getD i 0) * 256#32) + ((M.getD (((((64 * m : Nat) : Int) + (4 * (i : Int))) + 0 : Int).toNat) 0).setWidth 32))).getD i 0) * 256#32) + ((M.getD (((((64 * m : Nat) : Int) + (4 * (i : Int))) + 1 : Int).toNat) 0).setWidth 32))).set i (((((wl.set i (((wl.getD i 0) * 256#32) + ((M.getD (((((64 * m : Nat) : Int) + (4 * (i : Int))) + 0 : Int).toNat) 0).setWidth 32))).set i ((((wl.set i (((wl.getD i 0) * 256#32) + ((M.getD (((((64 * m : Nat) : Int) + (4 * (i : Int))) + 0 : Int).toNat) 0).setWidth 32))).getD i 0) * 256#32) + ((M.getD (((((64 * m : Nat) : Int) + (4 * (i : Int))) + 1 : Int).toNat) 0).setWidth 32))).getD i 0) * 256#32) + ((M.getD (((((64 * m : Nat) : Int) + (4 * (i : Int))) + 2 : Int).toNat) 0).setWidth 32))).getD i 0) * 256#32) + ((M.getD (((((64 * m : Nat) : Int) + (4 * (i : Int))) + 3 : Int).toNat) 0).setWidth 32)) = Wx ((M.drop (64 * m)).take 64) (i + 1) := by
       have e0 : (((64 * m : Nat) : Int) + 4 * (i : Int) + 0).toNat = 64 * m + (4 * i + 0) := by omega
       have e1 : (((64 * m : Nat) : Int) + 4 * (i : Int) + 1).toNat = 64 * m + (4 * i + 1) := by omega
       have e2 : (((64 * m : Nat) : Int) + 4 * (i : Int) + 2).toNat = 64 * m + (4 * i + 2) := by omega
       have e3 : (((64 * m : Nat) : Int) + 4 * (i : Int) + 3).toNat = 64 * m + (4 * i + 3) := by omega
       simp only [e0, e1, e2, e3]
       exact Qlw ((M.drop (64 * m)).take 64) i oM _ _ _ _ (Qfy M m (4 * i) oM oM) (Qfy M m (4 * i + 1) oM oM) (Qfy M m (4 * i + 2) oM oM) (Qfy M m (4 * i + 3) oM oM) wl hw
      exact ⟨((((wl.set i (((wl.getD i 0) * 256#32) + ((M.getD (((((64 * m : Nat) : Int) + (4 * (i : Int))) + 0 : Int).toNat) 0).setWidth 32))).set i ((((wl.set i (((wl.getD i 0) * 256#32) + ((M.getD (((((64 * m : Nat) : Int) + (4 * (i : Int))) + 0 : Int).toNat) 0).setWidth 32))).getD i 0) * 256#32) + ((M.getD (((((64 * m : Nat) : Int) + (4 * (i : Int))) + 1 : Int).toNat) 0).setWidth 32))).set i (((((wl.set i (((wl.getD i 0) * 256#32) + ((M.getD (((((64 * m : Nat) : Int) + (4 * (i : Int))) + 0 : Int).toNat) 0).setWidth 32))).set i ((((wl.set i (((wl.getD i 0) * 256#32) + ((M.getD (((((64 * m : Nat) : Int) + (4 * (i : Int))) + 0 : Int).toNat) 0).setWidth 32))).getD i 0) * 256#32) + ((M.getD (((((64 * m : Nat) : Int) + (4 * (i : Int))) + 1 : Int).toNat) 0).setWidth 32))).getD i 0) * 256#32) + ((M.getD (((((64 * m : Nat) : Int) + (4 * (i : Int))) + 2 : Int).toNat) 0).setWidth 32))).set i ((((((wl.set i (((wl.getD i 0) * 256#32) + ((M.getD (((((64 * m : Nat) : Int) + (4 * (i : Int))) + 0 : Int).toNat) 0).setWidth 32))).set i ((((wl.set i (((wl.getD i 0) * 256#32) + ((M.getD (((((64 * m : Nat) : Int) + (4 * (i : Int))) + 0 : Int).toNat) 0).setWidth 32))).getD i 0) * 256#32) + ((M.getD (((((64 * m : Nat) : Int) + (4 * (i : Int))) + 1 : Int).toNat) 0).setWidth 32))).set i (((((wl.set i (((wl.getD i 0) * 256#32) + ((M.getD (((((64 * m : Nat) : Int) + (4 * (i : Int))) + 0 : Int).toNat) 0).setWidth 32))).set i ((((wl.set i (((wl.getD i 0) * 256#32) + ((M.getD (((((64 * m : Nat) : Int) + (4 * (i : Int))) + 0 : Int).toNat) 0).setWidth 32))).getD i 0) * 256#32) + ((M.getD (((((64 * m : Nat) : Int) + (4 * (i : Int))) + 1 : Int).toNat) 0).setWidth 32))).getD i 0) * 256#32) + ((M.getD (((((64 * m : Nat) : Int) + (4 * (i : Int))) + 2 : Int).toNat) 0).setWidth 32))).getD i 0) * 256#32) + ((M.getD (((((64 * m : Nat) : Int) + (4 * (i : Int))) + 3 : Int).toNat) 0).setWidth 32))), hwn, s0, s2, s3, s4, s5, s6, s7, s8, s9, s10, s11, s30, s39, s55, s61, s65, m63⟩
     ·
      have hc55p := of_decide_eq_false hc55
      refine Xg (dl 46) 46 Xo <| Uh rfl s11 <| Uh rfl s11 <| X6 rfl (Yf (b := 2) rfl rfl oM oM) <| X6 rfl (Zl (r := ((i : Int) - 2 : Int).toNat) oM Gm Ze s9 rfl oM sD) <| Ym (v := (u32 (wl.getD (((i : Int) - 2 : Int).toNat) 0))) rfl (fun _ e' => Qi Xv rfl rfl (m53.ext e').h1 (Qu _ _ 0 sD)) <| Vg rfl rfl (fun w65 _ew65 => Qep (Xm rfl rfl) (Lu (wl.getD (((i : Int) - 2 : Int).toNat) 0) _ _ sD sD)) <| Uh rfl s11 <| X6 rfl (Yf (b := 2) rfl rfl oM oM) <| X6 rfl (Zl (r := ((i : Int) - 2 : Int).toNat) oM Gm Ze s9 rfl oM sD) <| Ym (v := (u32 (wl.getD (((i : Int) - 2 : Int).toNat) 0))) rfl (fun _ e' => Qi Xv rfl rfl (m53.ext e').h1 (Qu _ _ 0 sD)) <| Vg rfl rfl (fun w68 _ew68 => Qep (Xm rfl rfl) (Lu (wl.getD (((i : Int) - 2 : Int).toNat) 0) _ _ sD sD)) ?_
      refine X6 rfl (Jn rfl rfl) <| Uh rfl s11 <| X6 rfl (Yf (b := 2) rfl rfl oM oM) <| X6 rfl (Zl (r := ((i : Int) - 2 : Int).toNat) oM Gm Ze s9 rfl oM sD) <| Ym (v := (u32 (wl.getD (((i : Int) - 2 : Int).toNat) 0))) rfl (fun _ e' => Qi Xv rfl rfl (m53.ext e').h1 (Qu _ _ 0 sD)) <| X6 rfl (Un (b := 10) rfl rfl oM) <| X6 rfl (Jn rfl rfl) <| Uh rfl s11 <| X6 rfl (Yf (b := 7) rfl rfl oM oM) <| X6 rfl (Zl (r := ((i : Int) - 7 : Int).toNat) oM Gm Ze s9 rfl oM sD) <| Ym (v := (u32 (wl.getD (((i : Int) - 7 : Int).toNat) 0))) rfl (fun _ e' => Qi Xv rfl rfl (m53.ext e').h1 (Qu _ _ 0 sD)) <| X6 rfl (Xz rfl rfl) ?_
      refine Uh rfl s11 <| X6 rfl (Yf (b := 15) rfl rfl oM oM) <| X6 rfl (Zl (r := ((i : Int) - 15 : Int).toNat) oM Gm Ze s9 rfl oM sD) <| Ym (v := (u32 (wl.getD (((i : Int) - 15 : Int).toNat) 0))) rfl (fun _ e' => Qi Xv rfl rfl (m53.ext e').h1 (Qu _ _ 0 sD)) <| Vg rfl rfl (fun w71 _ew71 => Qep (Xm rfl rfl) (Lu (wl.getD (((i : Int) - 15 : Int).toNat) 0) _ _ sD sD)) <| Uh rfl s11 <| X6 rfl (Yf (b := 15) rfl rfl oM oM) <| X6 rfl (Zl (r := ((i : Int) - 15 : Int).toNat) oM Gm Ze s9 rfl oM sD) <| Ym (v := (u32 (wl.getD (((i : Int) - 15 : Int).toNat) 0))) rfl (fun _ e' => Qi Xv rfl rfl (m53.ext e').h1 (Qu _ _ 0 sD)) <| Vg rfl rfl (fun w74 _ew74 => Qep (Xm rfl rfl) (Lu (wl.getD (((i : Int) - 15 : Int).toNat) 0) _ _ sD sD)) <| X6 rfl (Jn rfl rfl) <| Uh rfl s11 ?_
      refine X6 rfl (Yf (b := 15) rfl rfl oM oM) <| X6 rfl (Zl (r := ((i : Int) - 15 : Int).toNat) oM Gm Ze s9 rfl oM sD) <| Ym (v := (u32 (wl.getD (((i : Int) - 15 : Int).toNat) 0))) rfl (fun _ e' => Qi Xv rfl rfl (m53.ext e').h1 (Qu _ _ 0 sD)) <| X6 rfl (Un (b := 3) rfl rfl oM) <| X6 rfl (Jn rfl rfl) <| X6 rfl (Xz rfl rfl) <| Uh rfl s11 <| X6 rfl (Yf (b := 16) rfl rfl oM oM) <| X6 rfl (Zl (r := ((i : Int) - 16 : Int).toNat) oM Gm Ze s9 rfl oM sD) <| Ym (v := (u32 (wl.getD (((i : Int) - 16 : Int).toNat) 0))) rfl (fun _ e' => Qi Xv rfl rfl (m53.ext e').h1 (Qu _ _ 0 sD)) <| X6 rfl (Xz rfl rfl) <| Gf m53 fun w77 m77 => Qd (Zl (r := i) oM Gm Ze s9 rfl oM sD) <| Vu m77 (Xx (f := u32) (a := (((((Y7 (wl.getD (((i : Int) - 2 : Int).toNat) 0) (17 : Int)) ^^^ (Y7 (wl.getD (((i : Int) - 2 : Int).toNat) 0) (19 : Int))) ^^^ ((wl.getD (((i : Int) - 2 : Int).toNat) 0) >>> 10)) + (wl.getD (((i : Int) - 7 : Int).toNat) 0)) + (((Y7 (wl.getD (((i : Int) - 15 : Int).toNat) 0) (7 : Int)) ^^^ (Y7 (wl.getD (((i : Int) - 15 : Int).toNat) 0) (18 : Int))) ^^^ ((wl.getD (((i : Int) - 15 : Int).toNat) 0) >>> 3))) + (wl.getD (((i : Int) - 16 : Int).toNat) 0)) Xb Ze rfl rfl m77.h1 sD (.inl (Nat.zero_le _))) fun w78 m78 => rN ?_
      have hwn : wl.set i ((((((Y7 (wl.getD (((i : Int) - 2 : Int).toNat) 0) (17 : Int)) ^^^ (Y7 (wl.getD (((i : Int) - 2 : Int).toNat) 0) (19 : Int))) ^^^ ((wl.getD (((i : Int) - 2 : Int).toNat) 0) >>> 10)) + (wl.getD (((i : Int) - 7 : Int).toNat) 0)) + (((Y7 (wl.getD (((i : Int) - 15 : Int).toNat) 0) (7 : Int)) ^^^ (Y7 (wl.getD (((i : Int) - 15 : Int).toNat) 0) (18 : Int))) ^^^ ((wl.getD (((i : Int) - 15 : Int).toNat) 0) >>> 3))) + (wl.getD (((i : Int) - 16 : Int).toNat) 0)) = Wx ((M.drop (64 * m)).take 64) (i + 1) := by
       have e16 : ((i : Int) - 16).toNat = i - 16 := by omega
       have e7 : ((i : Int) - 7).toNat = i - 7 := by omega
       have e15 : ((i : Int) - 15).toNat = i - 15 := by omega
       have e2 : ((i : Int) - 2).toNat = i - 2 := by omega
       simp only [e16, e7, e15, e2]
       exact Qna ((M.drop (64 * m)).take 64) i oM oM wl hw
      exact ⟨(wl.set i ((((((Y7 (wl.getD (((i : Int) - 2 : Int).toNat) 0) (17 : Int)) ^^^ (Y7 (wl.getD (((i : Int) - 2 : Int).toNat) 0) (19 : Int))) ^^^ ((wl.getD (((i : Int) - 2 : Int).toNat) 0) >>> 10)) + (wl.getD (((i : Int) - 7 : Int).toNat) 0)) + (((Y7 (wl.getD (((i : Int) - 15 : Int).toNat) 0) (7 : Int)) ^^^ (Y7 (wl.getD (((i : Int) - 15 : Int).toNat) 0) (18 : Int))) ^^^ ((wl.getD (((i : Int) - 15 : Int).toNat) 0) >>> 3))) + (wl.getD (((i : Int) - 16 : Int).toNat) 0))), hwn, s0, s2, s3, s4, s5, s6, s7, s8, s9, s10, s11, s30, s39, s55, rfl, rfl, m78⟩
    rintro fr79 w80 ⟨wn, hwn, s0, s2, s3, s4, s5, s6, s7, s8, s9, s10, s11, s30, s39, s55, s61, s65, m80⟩
    have hwnl : wn.length = 64 := by rw [hwn, Qam]
    refine sR <| Qd (Xu 4 4 Y5 Ze s10) <| Qd (v := (u32 v4)) (Qi Xv rfl rfl m80.h0 (Qu _ _ 0 Ya)) <| Qd (Xu 5 5 Y5 Ze s10) <| Qd (v := (u32 v5)) (Qi Xv rfl rfl m80.h0 (Qu _ _ 0 Ya)) <| Qd (Df rfl rfl) <| Qd (Xu 4 4 Y5 Ze s10) <| Qd (v := (u32 v4)) (Qi Xv rfl rfl m80.h0 (Qu _ _ 0 Ya)) <| Qd (Qjl rfl) <| Qd (Xu 6 6 Y5 Ze s10) <| Qd (v := (u32 v6)) (Qi Xv rfl rfl m80.h0 (Qu _ _ 0 Ya)) <| Qd (Df rfl rfl) ?_
    refine Qd (Jn rfl rfl) <| Zx (u32 ((v4 &&& v5) ^^^ ((~~~v4) &&& v6))) ?_
    refine rN (sR ?_)
    refine Qd (Xu 0 0 Y5 Ze s10) <| Qd (v := (u32 v0)) (Qi Xv rfl rfl m80.h0 (Qu _ _ 0 Ya)) <| Qd (Xu 1 1 Y5 Ze s10) <| Qd (v := (u32 v1)) (Qi Xv rfl rfl m80.h0 (Qu _ _ 0 Ya)) <| Qd (Df rfl rfl) <| Qd (Xu 0 0 Y5 Ze s10) <| Qd (v := (u32 v0)) (Qi Xv rfl rfl m80.h0 (Qu _ _ 0 Ya)) <| Qd (Xu 2 2 Y5 Ze s10) <| Qd (v := (u32 v2)) (Qi Xv rfl rfl m80.h0 (Qu _ _ 0 Ya)) <| Qd (Df rfl rfl) <| Qd (Jn rfl rfl) <| Qd (Xu 1 1 Y5 Ze s10) ?_
    refine Qd (v := (u32 v1)) (Qi Xv rfl rfl m80.h0 (Qu _ _ 0 Ya)) <| Qd (Xu 2 2 Y5 Ze s10) <| Qd (v := (u32 v2)) (Qi Xv rfl rfl m80.h0 (Qu _ _ 0 Ya)) <| Qd (Df rfl rfl) <| Qd (Jn rfl rfl) <| Zx (u32 (((v0 &&& v1) ^^^ (v0 &&& v2)) ^^^ (v1 &&& v2))) ?_
    refine rN (Qa ?_)
    refine Xg (dl 23) 23 Xo <| X6 rfl (Xu 7 7 Y5 Ze s10) <| Ym (v := (u32 v7)) rfl (fun _ e' => Qi Xv rfl rfl (m80.ext e').h0 (Qu _ _ 0 Ya)) <| X6 rfl (Xu 4 4 Y5 Ze s10) <| Ym (v := (u32 v4)) rfl (fun _ e' => Qi Xv rfl rfl (m80.ext e').h0 (Qu _ _ 0 Ya)) <| Vg rfl rfl (fun w81 _ew81 => Qep (Xm rfl rfl) (Lu v4 _ _ sD sD)) <| X6 rfl (Xu 4 4 Y5 Ze s10) <| Ym (v := (u32 v4)) rfl (fun _ e' => Qi Xv rfl rfl (m80.ext e').h0 (Qu _ _ 0 Ya)) <| Vg rfl rfl (fun w84 _ew84 => Qep (Xm rfl rfl) (Lu v4 _ _ sD sD)) <| X6 rfl (Jn rfl rfl) <| X6 rfl (Xu 4 4 Y5 Ze s10) <| Ym (v := (u32 v4)) rfl (fun _ e' => Qi Xv rfl rfl (m80.ext e').h0 (Qu _ _ 0 Ya)) ?_
    refine Vg rfl rfl (fun w87 _ew87 => Qep (Xm rfl rfl) (Lu v4 _ _ sD sD)) <| X6 rfl (Jn rfl rfl) <| X6 rfl (Xz rfl rfl) <| J8 rfl (u32 ((v4 &&& v5) ^^^ ((~~~v4) &&& v6))) <| X6 rfl (Xz rfl rfl) <| Uh rfl s11 <| X6 rfl (Zl (r := i) oM Gm Ze s6 rfl oM sD) <| Ym rfl (fun _ e' => Qi Xv rfl rfl (m80.ext e').h3 (Qu _ _ 0 sD)) <| X6 rfl (Xz rfl rfl) <| Uh rfl s11 <| X6 rfl (Zl (r := i) oM Gm Ze s9 rfl oM sD) <| Ym rfl (fun _ e' => Qi Xv rfl rfl (m80.ext e').h1 (Qu _ _ 0 sD)) ?_
    refine Gf m80 fun w90 m90 => Qd (Xz rfl rfl) <| yqA rfl ?_
    refine rN (Qa ?_)
    refine Xg (dl 12) 12 Xo <| X6 rfl (Xu 0 0 Y5 Ze s10) <| Ym (v := (u32 v0)) rfl (fun _ e' => Qi Xv rfl rfl (m90.ext e').h0 (Qu _ _ 0 Ya)) <| Vg rfl rfl (fun w91 _ew91 => Qep (Xm rfl rfl) (Lu v0 _ _ sD sD)) <| X6 rfl (Xu 0 0 Y5 Ze s10) <| Ym (v := (u32 v0)) rfl (fun _ e' => Qi Xv rfl rfl (m90.ext e').h0 (Qu _ _ 0 Ya)) <| Vg rfl rfl (fun w94 _ew94 => Qep (Xm rfl rfl) (Lu v0 _ _ sD sD)) <| X6 rfl (Jn rfl rfl) <| X6 rfl (Xu 0 0 Y5 Ze s10) <| Ym (v := (u32 v0)) rfl (fun _ e' => Qi Xv rfl rfl (m90.ext e').h0 (Qu _ _ 0 Ya)) <| Vg rfl rfl (fun w97 _ew97 => Qep (Xm rfl rfl) (Lu v0 _ _ sD sD)) <| X6 rfl (Jn rfl rfl) ?_
    refine J8 rfl (u32 (((v0 &&& v1) ^^^ (v0 &&& v2)) ^^^ (v1 &&& v2))) <| Gf m90 fun w100 m100 => Qd (Xz rfl rfl) <| yqA rfl ?_
    refine rN (Qa (sR ?_))
    refine Zx (i64 7) ?_
    refine rN (Qh ?_)
    refine Vo 8 ?_
    refine Zq (Qa (sR ?_))
    refine Zm (i64 7) <| Qd (Qhb 7 0) <| rN <| Q9 rfl Jb ?_
    refine Qn (Qc (Qa (Qh (Qb ?_))))
    refine Zm (i64 7) <| Zm (i64 7) <| Qd (v := (i64 6)) (V4 7 1) <| Qd (Xu 6 6 Y5 Ze s10) <| Qd (v := (u32 v6)) (Qi Xv rfl rfl m100.h0 (Qu _ _ 0 Ya)) <| Qd (Xu 7 7 Y5 Ze s10) <| Ye m100 (Zk (f := u32) (l' := [v0, v1, v2, v3, v4, v5, v6, v6]) rfl Xb Ze rfl rfl m100.h0 Ya (.inl (Nat.zero_le _))) fun w101 m101 => ?_
    refine Zp (Qe (Qb ?_))
    refine Zm (i64 7) <| Qd (v := (i64 6)) (V4 7 1) <| Zx (i64 6) <| rN ?_
    refine CR.abs (fun g => g 0 = vb ∧ g 2 = (ptr b2 0) ∧ g 3 = sv36 ∧ g 4 = (u64 ((BitVec.ofInt 64 (l.length : Int)) * 8#64)) ∧ g 5 = (i64 (-1)) ∧ g 6 = (ptr b6 0) ∧ g 7 = (ptr b7 0) ∧ g 8 = (i64 ((64 * m : Nat) : Int)) ∧ g 9 = (ptr b9 0) ∧ g 10 = (ptr b10 0) ∧ g 11 = (i64 (i : Int)) ∧ g 13 = (u32 ((v4 &&& v5) ^^^ ((~~~v4) &&& v6))) ∧ g 14 = (u32 (((v0 &&& v1) ^^^ (v0 &&& v2)) ^^^ (v1 &&& v2))) ∧ g 15 = (u32 ((((v7 + (((Y7 v4 (6 : Int)) ^^^ (Y7 v4 (11 : Int))) ^^^ (Y7 v4 (25 : Int)))) + ((v4 &&& v5) ^^^ ((~~~v4) &&& v6))) + (Ed.getD i 0)) + (wn.getD i 0))) ∧ g 16 = (u32 ((((Y7 v0 (2 : Int)) ^^^ (Y7 v0 (13 : Int))) ^^^ (Y7 v0 (22 : Int))) + (((v0 &&& v1) ^^^ (v0 &&& v2)) ^^^ (v1 &&& v2)))) ∧ g 17 = (i64 6) ∧ g 30 = (bl ((((l ++ 128#8 :: List.replicate ((119 - l.length % 64) % 64) 0#8).length : Int) % 64) != 56)) ∧ g 39 = (bl false) ∧ g 55 = (bl (decide (((64 * m : Nat) : Int) < (M.length : Int)))) ∧ g 61 = (bl (decide ((i : Int) < 64))) ∧ g 65 = (bl (decide ((i : Int) < 16))) ∧ g 201 = (bl true) ∧ True) ⟨s0, s2, s3, s4, s5, s6, s7, s8, s9, s10, s11, rfl, rfl, rfl, rfl, rfl, s30, s39, s55, s61, s65, rfl, trivial⟩ ?_
    rintro fr102 ⟨s0, s2, s3, s4, s5, s6, s7, s8, s9, s10, s11, s13, s14, s15, s16, s17, s30, s39, s55, s61, s65, s201, _⟩
    refine Zq (Qa (sR ?_))
    refine Yb s17 <| Qd (Qhb 6 0) <| rN <| Q9 rfl Jb ?_
    refine Qn (Qc (Qa (Qh (Qb ?_))))
    refine Yb s17 <| Yb s17 <| Qd (v := (i64 5)) (V4 6 1) <| Qd (Xu 5 5 Y5 Ze s10) <| Qd (v := (u32 v5)) (Qi Xv rfl rfl m101.h0 (Qu _ _ 0 Ya)) <| Qd (Xu 6 6 Y5 Ze s10) <| Ye m101 (Zk (f := u32) (l' := [v0, v1, v2, v3, v4, v5, v5, v6]) rfl Xb Ze rfl rfl m101.h0 Ya (.inl (Nat.zero_le _))) fun w103 m103 => ?_
    refine Zp (Qe (Qb ?_))
    refine Yb s17 <| Qd (v := (i64 5)) (V4 6 1) <| Zx (i64 5) ?_
    refine rN (Zq (Qa (sR ?_)))
    refine Zm (i64 5) <| Qd (Qhb 5 0) <| rN <| Q9 rfl Jb ?_
    refine Qn (Qc (Qa (Qh (Qb ?_))))
    refine Zm (i64 5) <| Zm (i64 5) <| Qd (v := (i64 4)) (V4 5 1) <| Qd (Xu 4 4 Y5 Ze s10) <| Qd (v := (u32 v4)) (Qi Xv rfl rfl m103.h0 (Qu _ _ 0 Ya)) <| Qd (Xu 5 5 Y5 Ze s10) <| Ye m103 (Zk (f := u32) (l' := [v0, v1, v2, v3, v4, v4, v5, v6]) rfl Xb Ze rfl rfl m103.h0 Ya (.inl (Nat.zero_le _))) fun w104 m104 => ?_
    refine Zp (Qe (Qb ?_))
    refine Zm (i64 5) <| Qd (v := (i64 4)) (V4 5 1) <| Zx (i64 4) ?_
    refine rN (Zq (Qa (sR ?_)))
    refine Zm (i64 4) <| Qd (Qhb 4 0) <| rN <| Q9 rfl Jb ?_
    refine Qn (Qc (Qa (Qh (Qb ?_))))
    refine Zm (i64 4) <| Zm (i64 4) <| Qd (v := (i64 3)) (V4 4 1) <| Qd (Xu 3 3 Y5 Ze s10) <| Qd (v := (u32 v3)) (Qi Xv rfl rfl m104.h0 (Qu _ _ 0 Ya)) <| Qd (Xu 4 4 Y5 Ze s10) <| Ye m104 (Zk (f := u32) (l' := [v0, v1, v2, v3, v3, v4, v5, v6]) rfl Xb Ze rfl rfl m104.h0 Ya (.inl (Nat.zero_le _))) fun w105 m105 => ?_
    refine Zp (Qe (Qb ?_))
    refine Zm (i64 4) <| Qd (v := (i64 3)) (V4 4 1) <| Zx (i64 3) ?_
    refine rN (Zq (Qa (sR ?_)))
    refine Zm (i64 3) <| Qd (Qhb 3 0) <| rN <| Q9 rfl Jb ?_
    refine Qn (Qc (Qa (Qh (Qb ?_))))
    refine Zm (i64 3) <| Zm (i64 3) <| Qd (v := (i64 2)) (V4 3 1) <| Qd (Xu 2 2 Y5 Ze s10) <| Qd (v := (u32 v2)) (Qi Xv rfl rfl m105.h0 (Qu _ _ 0 Ya)) <| Qd (Xu 3 3 Y5 Ze s10) <| Ye m105 (Zk (f := u32) (l' := [v0, v1, v2, v2, v3, v4, v5, v6]) rfl Xb Ze rfl rfl m105.h0 Ya (.inl (Nat.zero_le _))) fun w106 m106 => ?_
    refine Zp (Qe (Qb ?_))
    refine Zm (i64 3) <| Qd (v := (i64 2)) (V4 3 1) <| Zx (i64 2) ?_
    refine rN (Zq (Qa (sR ?_)))
    refine Zm (i64 2) <| Qd (Qhb 2 0) <| rN <| Q9 rfl Jb ?_
    refine Qn (Qc (Qa (Qh (Qb ?_))))
    refine Zm (i64 2) <| Zm (i64 2) <| Qd (v := (i64 1)) (V4 2 1) <| Qd (Xu 1 1 Y5 Ze s10) <| Qd (v := (u32 v1)) (Qi Xv rfl rfl m106.h0 (Qu _ _ 0 Ya)) <| Qd (Xu 2 2 Y5 Ze s10) <| Ye m106 (Zk (f := u32) (l' := [v0, v1, v1, v2, v3, v4, v5, v6]) rfl Xb Ze rfl rfl m106.h0 Ya (.inl (Nat.zero_le _))) fun w107 m107 => ?_
    refine Zp (Qe (Qb ?_))
    refine Zm (i64 2) <| Qd (v := (i64 1)) (V4 2 1) <| Zx (i64 1) ?_
    refine rN (Zq (Qa (sR ?_)))
    refine Zm (i64 1) <| Qd (Qhb 1 0) <| rN <| Q9 rfl Jb ?_
    refine Qn (Qc (Qa (Qh (Qb ?_))))
    refine Zm (i64 1) <| Zm (i64 1) <| Qd (v := (i64 0)) (V4 1 1) <| Qd (Xu 0 0 Y5 Ze s10) <| Qd (v := (u32 v0)) (Qi Xv rfl rfl m107.h0 (Qu _ _ 0 Ya)) <| Qd (Xu 1 1 Y5 Ze s10) <| Ye m107 (Zk (f := u32) (l' := [v0, v0, v1, v2, v3, v4, v5, v6]) rfl Xb Ze rfl rfl m107.h0 Ya (.inl (Nat.zero_le _))) fun w108 m108 => ?_
    refine Zp (Qe (Qb ?_))
    refine Zm (i64 1) <| Qd (v := (i64 0)) (V4 1 1) <| Zx (i64 0) ?_
    refine rN (Zq (Qa (sR ?_)))
    refine Zm (i64 0) <| Qd (Qhb 0 0) <| rN <| Ja rfl Jb <| X4 ?_
    refine Qj (Qj (Xi ?_))
    refine sR <| Qd (Xu 4 4 Y5 Ze s10) <| Qd (v := (u32 v3)) (Qi Xv rfl rfl m108.h0 (Qu _ _ 0 Ya)) <| Yb s15 <| Qd (Xz rfl rfl) <| Qd (Xu 4 4 Y5 Ze s10) <| Ye m108 (Zk (f := u32) (l' := [v0, v0, v1, v2, v3 + ((((v7 + (((Y7 v4 (6 : Int)) ^^^ (Y7 v4 (11 : Int))) ^^^ (Y7 v4 (25 : Int)))) + ((v4 &&& v5) ^^^ ((~~~v4) &&& v6))) + (Ed.getD i 0)) + (wn.getD i 0)), v4, v5, v6]) rfl Xb Ze rfl rfl m108.h0 Ya (.inl (Nat.zero_le _))) fun w109 m109 => ?_
    refine rN (Qb ?_)
    refine Yb s15 <| Yb s16 <| Qd (Xz rfl rfl) <| Qd (Xu 0 0 Y5 Ze s10) <| Ye m109 (Zk (f := u32) (l' := [((((v7 + (((Y7 v4 (6 : Int)) ^^^ (Y7 v4 (11 : Int))) ^^^ (Y7 v4 (25 : Int)))) + ((v4 &&& v5) ^^^ ((~~~v4) &&& v6))) + (Ed.getD i 0)) + (wn.getD i 0)) + ((((Y7 v0 (2 : Int)) ^^^ (Y7 v0 (13 : Int))) ^^^ (Y7 v0 (22 : Int))) + (((v0 &&& v1) ^^^ (v0 &&& v2)) ^^^ (v1 &&& v2))), v0, v1, v2, v3 + ((((v7 + (((Y7 v4 (6 : Int)) ^^^ (Y7 v4 (11 : Int))) ^^^ (Y7 v4 (25 : Int)))) + ((v4 &&& v5) ^^^ ((~~~v4) &&& v6))) + (Ed.getD i 0)) + (wn.getD i 0)), v4, v5, v6]) rfl Xb Ze rfl rfl m109.h0 Ya (.inl (Nat.zero_le _))) fun w110 m110 => ?_
    refine Zp (Qe (Qb ?_))
    refine Yb s11 <| Qd (Zf (b := 1) rfl rfl oM oM) <| Zx (i64 ((i : Int) + 1)) <| rN ?_
    have hwi : wn.getD i 0 = (Du ((M.drop (64 * m)).take 64)).getD i 0 := by rw [hwn]; exact Qm8 ((M.drop (64 * m)).take 64) i oM
    have hvn : [((((v7 + (((Y7 v4 (6 : Int)) ^^^ (Y7 v4 (11 : Int))) ^^^ (Y7 v4 (25 : Int)))) + ((v4 &&& v5) ^^^ ((~~~v4) &&& v6))) + (Ed.getD i 0)) + (wn.getD i 0)) + ((((Y7 v0 (2 : Int)) ^^^ (Y7 v0 (13 : Int))) ^^^ (Y7 v0 (22 : Int))) + (((v0 &&& v1) ^^^ (v0 &&& v2)) ^^^ (v1 &&& v2))), v0, v1, v2, v3 + ((((v7 + (((Y7 v4 (6 : Int)) ^^^ (Y7 v4 (11 : Int))) ^^^ (Y7 v4 (25 : Int)))) + ((v4 &&& v5) ^^^ ((~~~v4) &&& v6))) + (Ed.getD i 0)) + (wn.getD i 0)), v4, v5, v6] = Qap (Du ((M.drop (64 * m)).take 64)) (i + 1) [h0, h1, h2, h3, h4, h5, h6, h7] := by
     rw [Qng, ← hv, ← hwi]; exact rndR _ _ _ _ _ _ _ _ _ _
    exact ⟨⟨i + 1, wn, (((((v7 + (((Y7 v4 (6 : Int)) ^^^ (Y7 v4 (11 : Int))) ^^^ (Y7 v4 (25 : Int)))) + ((v4 &&& v5) ^^^ ((~~~v4) &&& v6))) + (Ed.getD i 0)) + (wn.getD i 0)) + ((((Y7 v0 (2 : Int)) ^^^ (Y7 v0 (13 : Int))) ^^^ (Y7 v0 (22 : Int))) + (((v0 &&& v1) ^^^ (v0 &&& v2)) ^^^ (v1 &&& v2)))), v0, v1, v2, (v3 + ((((v7 + (((Y7 v4 (6 : Int)) ^^^ (Y7 v4 (11 : Int))) ^^^ (Y7 v4 (25 : Int)))) + ((v4 &&& v5) ^^^ ((~~~v4) &&& v6))) + (Ed.getD i 0)) + (wn.getD i 0))), v4, v5, v6, oM, hwn, hvn, s0, s2, s3, s4, s5, s6, s7, s8, s9, s10, rfl, s30, s39, s55, m110⟩, Ue rfl z11 oM oM⟩
   ·
    have hc54p := of_decide_eq_false hc54
    obtain rfl : i = 64 := by omega
    refine X4 ?_
    refine Qj (Qj (Xi ?_))
    refine sR <| Zx (i64 0) ?_
    refine rN (V8 ?_)
    refine Vo 9 ?_
    refine Zq (Qa (sR ?_))
    refine Zm (i64 0) <| Qd (Jd 0 8) <| rN <| Q9 rfl Jb ?_
    refine Qn (Qc (Qa (Qh ?_)))
    refine Xg (dl 6) 6 Xo <| J8 rfl (i64 0) <| X6 rfl (Xu 0 0 Y5 Ze s7) <| Ym (v := (u32 h0)) rfl (fun _ e' => Qi Xv rfl rfl (m53.ext e').h2 (Qu _ _ 0 Ya)) <| J8 rfl (i64 0) <| X6 rfl (Xu 0 0 Y5 Ze s10) <| Ym (v := (u32 v0)) rfl (fun _ e' => Qi Xv rfl rfl (m53.ext e').h0 (Qu _ _ 0 Ya)) <| Gf m53 fun w111 m111 => Qd (Xz rfl rfl) <| Qd (Xu 0 0 Y5 Ze s7) <| Aa m111 (Zk (f := u32) (l' := [h0 + v0, h1, h2, h3, h4, h5, h6, h7]) rfl Xb Ze rfl rfl m111.h2 Ya (.inl (Nat.zero_le _))) fun w112 m112 => ?_
    refine Zp (Qe (Qb ?_))
    refine Zm (i64 0) <| Qd (v := (i64 1)) (Yo 0 1) <| Zx (i64 1) ?_
    refine rN (Zq (Qa (sR ?_)))
    refine Zm (i64 1) <| Qd (Jd 1 8) <| rN <| Q9 rfl Jb ?_
    refine Qn (Qc (Qa (Qh ?_)))
    refine Xg (dl 6) 6 Xo <| J8 rfl (i64 1) <| X6 rfl (Xu 1 1 Y5 Ze s7) <| Ym (v := (u32 h1)) rfl (fun _ e' => Qi Xv rfl rfl (m112.ext e').h2 (Qu _ _ 0 Ya)) <| J8 rfl (i64 1) <| X6 rfl (Xu 1 1 Y5 Ze s10) <| Ym (v := (u32 v1)) rfl (fun _ e' => Qi Xv rfl rfl (m112.ext e').h0 (Qu _ _ 0 Ya)) <| Gf m112 fun w113 m113 => Qd (Xz rfl rfl) <| Qd (Xu 1 1 Y5 Ze s7) <| Aa m113 (Zk (f := u32) (l' := [h0 + v0, h1 + v1, h2, h3, h4, h5, h6, h7]) rfl Xb Ze rfl rfl m113.h2 Ya (.inl (Nat.zero_le _))) fun w114 m114 => ?_
    refine Zp (Qe (Qb ?_))
    refine Zm (i64 1) <| Qd (v := (i64 2)) (Yo 1 1) <| Zx (i64 2) ?_
    refine rN (Zq (Qa (sR ?_)))
    refine Zm (i64 2) <| Qd (Jd 2 8) <| rN <| Q9 rfl Jb ?_
    refine Qn (Qc (Qa (Qh ?_)))
    refine Xg (dl 6) 6 Xo <| J8 rfl (i64 2) <| X6 rfl (Xu 2 2 Y5 Ze s7) <| Ym (v := (u32 h2)) rfl (fun _ e' => Qi Xv rfl rfl (m114.ext e').h2 (Qu _ _ 0 Ya)) <| J8 rfl (i64 2) <| X6 rfl (Xu 2 2 Y5 Ze s10) <| Ym (v := (u32 v2)) rfl (fun _ e' => Qi Xv rfl rfl (m114.ext e').h0 (Qu _ _ 0 Ya)) <| Gf m114 fun w115 m115 => Qd (Xz rfl rfl) <| Qd (Xu 2 2 Y5 Ze s7) <| Aa m115 (Zk (f := u32) (l' := [h0 + v0, h1 + v1, h2 + v2, h3, h4, h5, h6, h7]) rfl Xb Ze rfl rfl m115.h2 Ya (.inl (Nat.zero_le _))) fun w116 m116 => ?_
    refine Zp (Qe (Qb ?_))
    refine Zm (i64 2) <| Qd (v := (i64 3)) (Yo 2 1) <| Zx (i64 3) ?_
    refine rN (Zq (Qa (sR ?_)))
    refine Zm (i64 3) <| Qd (Jd 3 8) <| rN <| Q9 rfl Jb ?_
    refine Qn (Qc (Qa (Qh ?_)))
    refine Xg (dl 6) 6 Xo <| J8 rfl (i64 3) <| X6 rfl (Xu 3 3 Y5 Ze s7) <| Ym (v := (u32 h3)) rfl (fun _ e' => Qi Xv rfl rfl (m116.ext e').h2 (Qu _ _ 0 Ya)) <| J8 rfl (i64 3) <| X6 rfl (Xu 3 3 Y5 Ze s10) <| Ym (v := (u32 v3)) rfl (fun _ e' => Qi Xv rfl rfl (m116.ext e').h0 (Qu _ _ 0 Ya)) <| Gf m116 fun w117 m117 => Qd (Xz rfl rfl) <| Qd (Xu 3 3 Y5 Ze s7) <| Aa m117 (Zk (f := u32) (l' := [h0 + v0, h1 + v1, h2 + v2, h3 + v3, h4, h5, h6, h7]) rfl Xb Ze rfl rfl m117.h2 Ya (.inl (Nat.zero_le _))) fun w118 m118 => ?_
    refine Zp (Qe (Qb ?_))
    refine Zm (i64 3) <| Qd (v := (i64 4)) (Yo 3 1) <| Zx (i64 4) ?_
    refine rN (Zq (Qa (sR ?_)))
    refine Zm (i64 4) <| Qd (Jd 4 8) <| rN <| Q9 rfl Jb ?_
    refine Qn (Qc (Qa (Qh ?_)))
    refine Xg (dl 6) 6 Xo <| J8 rfl (i64 4) <| X6 rfl (Xu 4 4 Y5 Ze s7) <| Ym (v := (u32 h4)) rfl (fun _ e' => Qi Xv rfl rfl (m118.ext e').h2 (Qu _ _ 0 Ya)) <| J8 rfl (i64 4) <| X6 rfl (Xu 4 4 Y5 Ze s10) <| Ym (v := (u32 v4)) rfl (fun _ e' => Qi Xv rfl rfl (m118.ext e').h0 (Qu _ _ 0 Ya)) <| Gf m118 fun w119 m119 => Qd (Xz rfl rfl) <| Qd (Xu 4 4 Y5 Ze s7) <| Aa m119 (Zk (f := u32) (l' := [h0 + v0, h1 + v1, h2 + v2, h3 + v3, h4 + v4, h5, h6, h7]) rfl Xb Ze rfl rfl m119.h2 Ya (.inl (Nat.zero_le _))) fun w120 m120 => ?_
    refine Zp (Qe (Qb ?_))
    refine Zm (i64 4) <| Qd (v := (i64 5)) (Yo 4 1) <| Zx (i64 5) ?_
    refine rN (Zq (Qa (sR ?_)))
    refine Zm (i64 5) <| Qd (Jd 5 8) <| rN <| Q9 rfl Jb ?_
    refine Qn (Qc (Qa (Qh ?_)))
    refine Xg (dl 6) 6 Xo <| J8 rfl (i64 5) <| X6 rfl (Xu 5 5 Y5 Ze s7) <| Ym (v := (u32 h5)) rfl (fun _ e' => Qi Xv rfl rfl (m120.ext e').h2 (Qu _ _ 0 Ya)) <| J8 rfl (i64 5) <| X6 rfl (Xu 5 5 Y5 Ze s10) <| Ym (v := (u32 v5)) rfl (fun _ e' => Qi Xv rfl rfl (m120.ext e').h0 (Qu _ _ 0 Ya)) <| Gf m120 fun w121 m121 => Qd (Xz rfl rfl) <| Qd (Xu 5 5 Y5 Ze s7) <| Aa m121 (Zk (f := u32) (l' := [h0 + v0, h1 + v1, h2 + v2, h3 + v3, h4 + v4, h5 + v5, h6, h7]) rfl Xb Ze rfl rfl m121.h2 Ya (.inl (Nat.zero_le _))) fun w122 m122 => ?_
    refine Zp (Qe (Qb ?_))
    refine Zm (i64 5) <| Qd (v := (i64 6)) (Yo 5 1) <| Zx (i64 6) <| rN ?_
    refine CR.abs (fun g => g 0 = vb ∧ g 2 = (ptr b2 0) ∧ g 3 = sv36 ∧ g 4 = (u64 ((BitVec.ofInt 64 (l.length : Int)) * 8#64)) ∧ g 5 = (i64 (-1)) ∧ g 6 = (ptr b6 0) ∧ g 7 = (ptr b7 0) ∧ g 8 = (i64 ((64 * m : Nat) : Int)) ∧ g 9 = (ptr b9 0) ∧ g 10 = (ptr b10 0) ∧ g 11 = (i64 (64 : Int)) ∧ g 18 = (i64 6) ∧ g 30 = (bl ((((l ++ 128#8 :: List.replicate ((119 - l.length % 64) % 64) 0#8).length : Int) % 64) != 56)) ∧ g 39 = (bl false) ∧ g 55 = (bl (decide (((64 * m : Nat) : Int) < (M.length : Int)))) ∧ g 61 = (bl (decide ((64 : Int) < 64))) ∧ g 220 = (bl true) ∧ True) ⟨s0, s2, s3, s4, s5, s6, s7, s8, s9, s10, s11, rfl, s30, s39, s55, rfl, rfl, trivial⟩ ?_
    rintro fr123 ⟨s0, s2, s3, s4, s5, s6, s7, s8, s9, s10, s11, s18, s30, s39, s55, s61, s220, _⟩
    refine Zq (Qa (sR ?_))
    refine Yb s18 <| Qd (Jd 6 8) <| rN <| Q9 rfl Jb ?_
    refine Qn (Qc (Qa (Qh ?_)))
    refine Xg (dl 6) 6 Xo <| Uh rfl s18 <| X6 rfl (Xu 6 6 Y5 Ze s7) <| Ym (v := (u32 h6)) rfl (fun _ e' => Qi Xv rfl rfl (m122.ext e').h2 (Qu _ _ 0 Ya)) <| Uh rfl s18 <| X6 rfl (Xu 6 6 Y5 Ze s10) <| Ym (v := (u32 v6)) rfl (fun _ e' => Qi Xv rfl rfl (m122.ext e').h0 (Qu _ _ 0 Ya)) <| Gf m122 fun w124 m124 => Qd (Xz rfl rfl) <| Qd (Xu 6 6 Y5 Ze s7) <| Aa m124 (Zk (f := u32) (l' := [h0 + v0, h1 + v1, h2 + v2, h3 + v3, h4 + v4, h5 + v5, h6 + v6, h7]) rfl Xb Ze rfl rfl m124.h2 Ya (.inl (Nat.zero_le _))) fun w125 m125 => ?_
    refine Zp (Qe (Qb ?_))
    refine Yb s18 <| Qd (v := (i64 7)) (Yo 6 1) <| Zx (i64 7) ?_
    refine rN (Zq (Qa (sR ?_)))
    refine Zm (i64 7) <| Qd (Jd 7 8) <| rN <| Q9 rfl Jb ?_
    refine Qn (Qc (Qa (Qh ?_)))
    refine Xg (dl 6) 6 Xo <| J8 rfl (i64 7) <| X6 rfl (Xu 7 7 Y5 Ze s7) <| Ym (v := (u32 h7)) rfl (fun _ e' => Qi Xv rfl rfl (m125.ext e').h2 (Qu _ _ 0 Ya)) <| J8 rfl (i64 7) <| X6 rfl (Xu 7 7 Y5 Ze s10) <| Ym (v := (u32 v7)) rfl (fun _ e' => Qi Xv rfl rfl (m125.ext e').h0 (Qu _ _ 0 Ya)) <| Gf m125 fun w126 m126 => Qd (Xz rfl rfl) <| Qd (Xu 7 7 Y5 Ze s7) <| Aa m126 (Zk (f := u32) (l' := [h0 + v0, h1 + v1, h2 + v2, h3 + v3, h4 + v4, h5 + v5, h6 + v6, h7 + v7]) rfl Xb Ze rfl rfl m126.h2 Ya (.inl (Nat.zero_le _))) fun w127 m127 => ?_
    refine Zp (Qe (Qb ?_))
    refine Zm (i64 7) <| Qd (v := (i64 8)) (Yo 7 1) <| Zx (i64 8) ?_
    refine rN (Zq (Qa (sR ?_)))
    refine Zm (i64 8) <| Qd (Jd 8 8) <| rN <| Ja rfl Jb <| X4 ?_
    refine Qj (Qj (Xi ?_))
    refine Qe (Qb ?_)
    refine Yb s8 <| Qd (Zf (b := 64) rfl rfl oM oM) <| Zx (i64 (((64 * m : Nat) : Int) + 64)) <| rN ?_
    have hhn : [h0 + v0, h1 + v1, h2 + v2, h3 + v3, h4 + v4, h5 + v5, h6 + v6, h7 + v7] = hAt Qcd M (m + 1) := by rw [hAt_succ, ← hh, Qhc, ← hv]; rfl
    have m128 := Mem.drop [_] _ m127
    have m129 := Mem.drop [_] _ m128
    exact ⟨⟨m + 1, (h0 + v0), (h1 + v1), (h2 + v2), (h3 + v3), (h4 + v4), (h5 + v5), (h6 + v6), (h7 + v7), oM, hhn, s0, s2, s3, s4, s5, s6, s7, (by show i64 _ = i64 _; congr 1), s30, s39, m129⟩, Ue (by show i64 _ = i64 _; congr 1) z8 (a' := ((64 * (m + 1) : Nat) : Int)) oM oM⟩
  ·
   have hc47p := of_decide_eq_false hc47
   obtain rfl : m = M.length / 64 := by omega
   refine X4 ?_
   refine Qj (Qj (Xi ?_))
   refine sR <| Qd (Kw (ps := []) (c := (cl u8 (List.replicate 32 0))) Zg Xl Yw Ya rfl) <| Y9 (Q7 m46 Zg) fun w130 b19 m130 => Ye m130 (Qg (f := u8) (l := List.replicate 32 0) Qs Zg rfl rfl sD m130.h0 sZ rfl) fun w131 m131 => ?_
   refine rN (Qa (sR ?_))
   refine Zx (i64 0) ?_
   refine rN (Qh ?_)
   refine Y1 (fun g wv => ∃ (e : Nat), (e ≤ 32) ∧ g 0 = vb ∧ g 2 = (ptr b2 0) ∧ g 3 = sv36 ∧ g 4 = (u64 ((BitVec.ofInt 64 (l.length : Int)) * 8#64)) ∧ g 5 = (i64 (-1)) ∧ g 6 = (ptr b6 0) ∧ g 7 = (ptr b7 0) ∧ g 8 = (i64 ((64 * (M.length / 64) : Nat) : Int)) ∧ g 19 = (ptr b19 0) ∧ g 20 = (i64 (e : Int)) ∧ g 30 = (bl ((((l ++ 128#8 :: List.replicate ((119 - l.length % 64) % 64) 0#8).length : Int) % 64) != 56)) ∧ g 39 = (bl false) ∧ g 55 = (bl (decide (((64 * (M.length / 64) : Nat) : Int) < (M.length : Int)))) ∧ Mem wv (Qr w0) ([(b19, .cells (cl u8 (Y0 (fun q => ([h0, h1, h2, h3, h4, h5, h6, h7].getD (q / 4) 0 >>> (24 - 8 * (q % 4))).setWidth 8) 0 32 e)) 23 (0, 0)), (b7, .cells (cl u32 ([h0, h1, h2, h3, h4, h5, h6, h7])) 152 (0, 0)), (b6, .cells (cl u32 Ed) 160 (0, 0))] ++ (Hs36 ++ ([(b2, .cells (cl u8 (List.replicate 32 0)) 23 (0, 0))])))) (fun g wv => (32 - RowKit.intOf (g 20)).toNat) ?_ ?_
   ·exact ⟨0, oM, s0, s2, s3, s4, s5, s6, s7, s8, rfl, rfl, s30, s39, rfl, (by rw [En]; exact m131)⟩
   rintro fr132 w133 ⟨e, he, s0, s2, s3, s4, s5, s6, s7, s8, s19, s20, s30, s39, s55, m133⟩
   have z20 := s20
   have hfl : (Y0 (fun q => ([h0, h1, h2, h3, h4, h5, h6, h7].getD (q / 4) 0 >>> (24 - 8 * (q % 4))).setWidth 8) (0 : BitVec 8) 32 e).length = 32 := J9 _ _ _ _ he
   refine Qa (sR ?_)
   refine Yb s20 <| Qd (Xa (b := 32) rfl rfl) <| rN ?_
   refine Zy rfl (fun hc134 => ?_) (fun hc134 => ?_)
   ·
    have hc134p := of_decide_eq_true hc134
    refine Qn (Qc (Qa (Qh (Qb ?_))))
    refine Yb s20 <| Yb s20 <| Qd (Jy.cast (congrArg i64 (show (e : Int) / 4 = ((e / 4 : Nat) : Int) by omega)) (Uo (b := 4) rfl rfl oM oM oM)) <| Qd (Zl (r := (e / 4)) oM Y5 Ze s7 rfl oM sD) <| Qd (v := (u32 (([h0, h1, h2, h3, h4, h5, h6, h7]).getD (e / 4) 0))) (Qi Xv rfl rfl m133.h1 (Qu _ _ 0 sD)) <| Yb s20 <| Qd (W9 (b := 4) rfl rfl oM oM oM) <| Qd (Kv (a := 8) rfl rfl oM oM) <| Qd (Jy.cast (congrArg i64 (show 24 - (8 * ((e : Int) % 4)) = ((24 - 8 * (e % 4) : Nat) : Int) by omega)) (Yf (a := 24) rfl rfl oM oM)) <| Qd (Un rfl rfl oM) <| Qd (F6 ⟨_, Xv⟩ Vs rfl) <| Qd (Zl (r := e) oM Xl Yw s19 rfl oM sD) ?_
    refine Ye m133 (Xx (f := u8) (a := ((([h0, h1, h2, h3, h4, h5, h6, h7]).getD (e / 4) 0) >>> ((24 - 8 * (e % 4) : Nat) : Int).toNat).setWidth 8) Qs Yw rfl rfl m133.h0 sD (.inl (Nat.zero_le _))) fun w135 m135 => ?_
    refine Zp (Qe (Qb ?_))
    refine Yb s20 <| Qd (Zf (b := 1) rfl rfl oM oM) <| Zx (i64 ((e : Int) + 1)) <| rN ?_
    exact ⟨⟨e + 1, oM, s0, s2, s3, s4, s5, s6, s7, s8, s19, rfl, s30, s39, s55, (by rw [← E5 (fun q => ([h0, h1, h2, h3, h4, h5, h6, h7].getD (q / 4) 0 >>> (24 - 8 * (q % 4))).setWidth 8) (0 : BitVec 8) (n := 32) (k := e) oM _ rfl]; exact m135)⟩, Ue rfl z20 oM oM⟩
   ·
    have hc134p := of_decide_eq_false hc134
    obtain rfl : e = 32 := by omega
    have hfl := J9 (fun q => ([h0, h1, h2, h3, h4, h5, h6, h7].getD (q / 4) 0 >>> (24 - 8 * (q % 4))).setWidth 8) (0 : BitVec 8) 32 32 oM
    refine X4 ?_
    refine Qj (Qj (Xi ?_))
    refine sR <| Qd (Qo Xl rfl Zg s19 m133.h0 sZ) <| Vf (Qg (f := u8) (l := Y0 (fun q => ([h0, h1, h2, h3, h4, h5, h6, h7].getD (q / 4) 0 >>> (24 - 8 * (q % 4))).setWidth 8) 0 32 32) Qs Zg s2 rfl sD ((Mem.pick2 [_, _, _] Hs36 [_] _ m133)).h0 sZ rfl) ?_
    rintro _ w136 uq136
    have m136 : Mem _ _ ([_, _, _, _] ++ (Hs36 ++ ([]))) := Mem.upd0 (Mem.pick2 [_, _, _] Hs36 [_] _ m133) uq136
    refine rN (Zz ?_)
    refine Qp [(agg u8 (Y0 (fun q => ([h0, h1, h2, h3, h4, h5, h6, h7].getD (q / 4) 0 >>> (24 - 8 * (q % 4))).setWidth 8) 0 32 32))] ⟨⟨_, s2, Xn Xl rfl Zg m136.h0 sZ⟩, trivial⟩ ?_
    exact ⟨congrArg (agg u8) ((show Y0 (fun q => ([h0, h1, h2, h3, h4, h5, h6, h7].getD (q / 4) 0 >>> (24 - 8 * (q % 4))).setWidth 8) 0 32 32 = Qcs [h0, h1, h2, h3, h4, h5, h6, h7] from rfl).trans (by rw [hh, hMM, pad_same]; exact (sum_flat l).symm)), m136.toExt⟩
end Go.Proofs.YtkmiemlpfkfiiaaDoor
