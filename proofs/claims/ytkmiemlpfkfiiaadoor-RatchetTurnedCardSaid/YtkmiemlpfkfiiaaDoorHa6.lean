/- Contracts: the document's hash. Conditions: none beyond those that each theorem states. -/
import Derived.Test.YtkmiemlpfkfiiaaDoorHa5
namespace Go.Proofs.YtkmiemlpfkfiiaaDoor
open BitVec renaming ofInt → aB
open List renaming getD_eq_getElem?_getD → aI, replicate → aA
open Mem renaming drop → aF, of_world → aY, pick → aC, pick2 → aN
open Nat renaming zero_le → aJ
open Rd renaming mkA → bG
open Tryd
set_option linter.unusedVariables false
set_option linter.unusedSimpArgs false
def Y9 (x : BitVec 32) (n : Int) : BitVec 32 := x >>> n.toNat ||| x <<< (32 - n).toNat
theorem shl8_add (x : BitVec 32) (y : BitVec 8) : x * 256#32 + y.setWidth 32 = x <<< 8 ||| y.setWidth 32 := by
 have e : x <<< 8 = x * 256#32 := by rw [BitVec.shiftLeft_eq_mul_twoPow]; rfl
 rw [← e]
 refine BitVec.add_eq_or_of_and_eq_zero _ _ ?_
 apply BitVec.eq_of_getLsbD_eq
 intro i hi
 simp only [BitVec.getLsbD_and, BitVec.getLsbD_shiftLeft, BitVec.getLsbD_setWidth, BitVec.getLsbD_zero]
 by_cases h : i < 8
 ·simp [h]
 rw [BitVec.getLsbD_of_ge y i oM]; simp
theorem rr (x : BitVec 32) : Y9 x 2 = Q8 x (-2) ∧ Y9 x 6 = Q8 x (-6) ∧ Y9 x 7 = Q8 x (-7) ∧ Y9 x 11 = Q8 x (-11) ∧ Y9 x 13 = Q8 x (-13) ∧ Y9 x 17 = Q8 x (-17) ∧ Y9 x 18 = Q8 x (-18) ∧ Y9 x 19 = Q8 x (-19) ∧ Y9 x 22 = Q8 x (-22) ∧ Y9 x 25 = Q8 x (-25) := by
 refine ⟨?_, ?_, ?_, ?_, ?_, ?_, ?_, ?_, ?_, ?_⟩ <;> (unfold Y9 Q8; rw [BitVec.or_comm]; rfl)
theorem Qmt (l : Z4) (k : Nat) (h : k < 16) (a b c d : BitVec 8) (ha : a = l.getD (4 * k) 0) (hb : b = l.getD (4 * k + 1) 0) (hc : c = l.getD (4 * k + 2) 0) (hd : d = l.getD (4 * k + 3) 0) (w : List (BitVec 32)) (hw : w = Wu l k) :
  (((w.set k (w.getD k 0 * 256#32 + a.setWidth 32)).set k ((w.set k (w.getD k 0 * 256#32 + a.setWidth 32)).getD k 0 * 256#32 + b.setWidth 32)).set k
   (((w.set k (w.getD k 0 * 256#32 + a.setWidth 32)).set k ((w.set k (w.getD k 0 * 256#32 + a.setWidth 32)).getD k 0 * 256#32 + b.setWidth 32)).getD k 0 * 256#32 + c.setWidth 32)).set k
   ((((w.set k (w.getD k 0 * 256#32 + a.setWidth 32)).set k ((w.set k (w.getD k 0 * 256#32 + a.setWidth 32)).getD k 0 * 256#32 + b.setWidth 32)).set k
   (((w.set k (w.getD k 0 * 256#32 + a.setWidth 32)).set k ((w.set k (w.getD k 0 * 256#32 + a.setWidth 32)).getD k 0 * 256#32 + b.setWidth 32)).getD k 0 * 256#32 + c.setWidth 32)).getD k 0 * 256#32 + d.setWidth 32) = Wu l (k + 1) := by
 simp only [shl8_add]
 exact Qhx l k h a b c d ha hb hc hd w hw
theorem Qod (l : Z4) (k : Nat) (h : ¬ k < 16) (h2 : k < 64) (w : List (BitVec 32)) (hw : w = Wu l k) :
  w.set k (((((Y9 (w.getD (k - 2) 0) 17 ^^^ Y9 (w.getD (k - 2) 0) 19) ^^^ (w.getD (k - 2) 0) >>> 10) + w.getD (k - 7) 0) + ((Y9 (w.getD (k - 15) 0) 7 ^^^ Y9 (w.getD (k - 15) 0) 18) ^^^ (w.getD (k - 15) 0) >>> 3)) + w.getD (k - 16) 0) = Wu l (k + 1) := by
 subst hw
 simp only [Wu]
 congr 1
 unfold Qdy
 rw [if_neg h]
 simp only [rr]
 ac_rfl
theorem rndR (w t a z c e f g h k : BitVec 32) :
  [((((k + ((Y9 f 6 ^^^ Y9 f 11) ^^^ Y9 f 25)) + ((f &&& g) ^^^ (~~~f &&& h))) + t) + w) + (((Y9 a 2 ^^^ Y9 a 13) ^^^ Y9 a 22) + (((a &&& z) ^^^ (a &&& c)) ^^^ (z &&& c))), a, z, c,
   e + ((((k + ((Y9 f 6 ^^^ Y9 f 11) ^^^ Y9 f 25)) + ((f &&& g) ^^^ (~~~f &&& h))) + t) + w), f, g, h] = rnd w t [a, z, c, e, f, g, h, k] := by
 simp only [rnd, rr]
 have e1 : ((((k + ((Q8 f (-6) ^^^ Q8 f (-11)) ^^^ Q8 f (-25))) + ((f &&& g) ^^^ (~~~f &&& h))) + t) + w) = ((((k + w) + t) + ((f &&& g) ^^^ (~~~f &&& h))) + ((Q8 f (-6) ^^^ Q8 f (-11)) ^^^ Q8 f (-25))) := by ac_rfl
 have e2 : (((Q8 a (-2) ^^^ Q8 a (-13)) ^^^ Q8 a (-22)) + (((a &&& z) ^^^ (a &&& c)) ^^^ (z &&& c))) = ((((a &&& z) ^^^ (a &&& c)) ^^^ (z &&& c)) + ((Q8 a (-2) ^^^ Q8 a (-13)) ^^^ Q8 a (-22))) := by ac_rfl
 rw [e1, e2]
theorem sum_flat (l : Z4) : U1 l = Qcp (hAt Qb9 (l ++ padP (0#64 + aB 64 (l.length : Int)) (l.length % 64)) ((l ++ padP (0#64 + aB 64 (l.length : Int)) (l.length % 64)).length / 64)) := by
 unfold U1 Dc
 have e : (l.drop (64 * (l.length / 64))).length = l.length % 64 := by simp; omega
 rw [e]
 generalize padP (0#64 + aB 64 (l.length : Int)) (l.length % 64) = p
 congr 1
 have e0 : l.drop (64 * (l.length / 64)) ++ p = (l ++ p).drop (64 * (l.length / 64)) := by rw [List.drop_append_of_le_length oM]
 have e2 : l.length / 64 + (l.drop (64 * (l.length / 64)) ++ p).length / 64 = (l ++ p).length / 64 := by simp; omega
 rw [← e2, ← Qpc Qb9 l p (l.length / 64) oM, e0, Qsl]
def padR (n : BitVec 64) (z : Nat) : Z4 := 128#8 :: (aA z 0#8 ++ [(n >>> 56).setWidth 8, (n >>> 48).setWidth 8, (n >>> 40).setWidth 8, (n >>> 32).setWidth 8, (n >>> 24).setWidth 8, (n >>> 16).setWidth 8, (n >>> 8).setWidth 8, (n >>> 0).setWidth 8])
theorem pad_same (l : Z4) : padR (aB 64 (l.length : Int) * 8#64) ((119 - l.length % 64) % 64) = padP (0#64 + aB 64 (l.length : Int)) (l.length % 64) := by
 unfold padR padP lenB
 have e : ∀ x : BitVec 64, x * 8#64 = (0#64 + x) <<< 3 := fun x => by rw [BitVec.zero_add, BitVec.shiftLeft_eq_mul_twoPow]; rfl
 rw [e]
theorem Qgf (M : Z4) (m i : Nat) (h : i < 64) (hm : 64 * m + 64 ≤ M.length) : M.getD (64 * m + i) 0 = ((M.drop (64 * m)).take 64).getD i 0 := by
 simp only [aI, List.getElem?_take, if_pos h, List.getElem?_drop]
theorem hAt_zero (h : List (BitVec 32)) (l : Z4) : hAt h l 0 = h := rfl
theorem hAt_succ (h : List (BitVec 32)) (l : Z4) (m : Nat) : hAt h l (m + 1) = Qhu (hAt h l m) ((l.drop (64 * m)).take 64) := rfl
theorem Qmu (l : Z4) : Wu l 0 = aA 64 0 := rfl
theorem Qoi (wl s : List (BitVec 32)) : Qam wl 0 s = s := rfl
theorem Qoj (wl s : List (BitVec 32)) (k : Nat) : Qam wl (k + 1) s = rnd (wl.getD k 0) (F9.getD k 0) (Qam wl k s) := rfl
theorem Qoc (l : Z4) (i : Nat) : ∀ k, i < k → (Wu l k).getD i 0 = (Wu l (i + 1)).getD i 0 := by
 intro k
 induction k with
 | zero => intro h; omega
 | succ k ih =>
  intro h
  rcases Nat.lt_or_ge i k with h1 | h1
  ·rw [← ih h1]
   simp only [Wu, aI, List.getElem?_set]
   rw [if_neg oM]
  have : i = k := by omega
  subst this; rfl
theorem Qob (l : Z4) (i : Nat) (h : i < 64) : (Wu l (i + 1)).getD i 0 = (Dj l).getD i 0 := (Qoc l i 64 h).symm
attribute [local irreducible] U1 hAt Qhu Dj Qam Wu rnd
theorem Ld (x : BitVec 32) (k : Int) (w0 : World)  (h0 : 0 ≤ k) (h1 : k ≤ 32) : Xz prog 106 #[(u32 x), (i64 k)] w0 (fun r w1 => r = (u32 (Y9 x k)) ∧ Ext w0 w1) := by
 refine Qz (args := [(u32 x), (i64 k)]) func106 rfl ntmps106 results106 rfl ?_
 have m0 : Mem w0 (Qs w0) [] := aY w0
 refine sR <| Zx (u32 0#32) ?_
 refine rN (Qa ?_)
 refine Xi (dl 7) 7 Xv <| J7 rfl (u32 x) <| J7 rfl (i64 k) <| X4 rfl (Ul rfl rfl oM) <| J7 rfl (u32 x) <| J7 rfl (i64 k) <| X4 rfl (Yg (a := 32) rfl rfl oM oM) <| X4 rfl (Fh rfl rfl oM) <| Gf m0 fun w1 m1 => Qd (Dv rfl rfl) <| Zx (u32 ((x >>> k.toNat) ||| (x <<< (32 - k).toNat))) ?_
 refine rN (Z8 ?_)
 refine Qq [(u32 ((x >>> k.toNat) ||| (x <<< (32 - k).toNat)))] ⟨rfl, trivial⟩ ?_
 exact ⟨rfl, m1.toExt⟩
theorem c_table  (w0 : World)   : Xz prog 105 #[] w0 (fun r w1 => r = (agg u32 F9) ∧ Ext w0 w1) := by
 refine Qz (args := []) func105 rfl ntmps105 results105 rfl ?_
 have m0 : Mem w0 (Qs w0) [] := aY w0
 refine sR <| Y5 (Q7 m0 Qbn) fun w1 b0 m1 => ?_
 refine rN (sR ?_)
 refine Qd (V9 u32 [1116352408#32, 1899447441#32, 3049323471#32, 3921009573#32, 961987163#32, 1508970993#32, 2453635748#32, 2870763221#32, 3624381080#32, 310598401#32, 607225278#32, 1426881987#32, 1925078388#32, 2162078206#32, 2614888103#32, 3248222580#32, 3835390401#32, 4022224774#32, 264347078#32, 604807628#32, 770255983#32, 1249150122#32, 1555081692#32, 1996064986#32, 2554220882#32, 2821834349#32, 2952996808#32, 3210313671#32, 3336571891#32, 3584528711#32, 113926993#32, 338241895#32, 666307205#32, 773529912#32, 1294757372#32, 1396182291#32, 1695183700#32, 1986661051#32, 2177026350#32, 2456956037#32, 2730485921#32, 2820302411#32, 3259730800#32, 3345764771#32, 3516065817#32, 3600352804#32, 4094571909#32, 275423344#32, 430227734#32, 506948616#32, 659060556#32, 883997877#32, 958139571#32, 1322822218#32, 1537002063#32, 1747873779#32, 1955562222#32, 2024104815#32, 2227730452#32, 2361852424#32, 2428436474#32, 2756734187#32, 3204031479#32, 3329325298#32] Xb Qbn Gl Ze rfl rfl) <| Ye m1 (Qg (f := u32) (l := [1116352408#32, 1899447441#32, 3049323471#32, 3921009573#32, 961987163#32, 1508970993#32, 2453635748#32, 2870763221#32, 3624381080#32, 310598401#32, 607225278#32, 1426881987#32, 1925078388#32, 2162078206#32, 2614888103#32, 3248222580#32, 3835390401#32, 4022224774#32, 264347078#32, 604807628#32, 770255983#32, 1249150122#32, 1555081692#32, 1996064986#32, 2554220882#32, 2821834349#32, 2952996808#32, 3210313671#32, 3336571891#32, 3584528711#32, 113926993#32, 338241895#32, 666307205#32, 773529912#32, 1294757372#32, 1396182291#32, 1695183700#32, 1986661051#32, 2177026350#32, 2456956037#32, 2730485921#32, 2820302411#32, 3259730800#32, 3345764771#32, 3516065817#32, 3600352804#32, 4094571909#32, 275423344#32, 430227734#32, 506948616#32, 659060556#32, 883997877#32, 958139571#32, 1322822218#32, 1537002063#32, 1747873779#32, 1955562222#32, 2024104815#32, 2227730452#32, 2361852424#32, 2428436474#32, 2756734187#32, 3204031479#32, 3329325298#32]) Xb Qbn rfl rfl sD m1.h0 sZ rfl) fun w2 m2 => ?_
 refine rN (Z8 ?_)
 refine Qq [(agg u32 ([1116352408#32, 1899447441#32, 3049323471#32, 3921009573#32, 961987163#32, 1508970993#32, 2453635748#32, 2870763221#32, 3624381080#32, 310598401#32, 607225278#32, 1426881987#32, 1925078388#32, 2162078206#32, 2614888103#32, 3248222580#32, 3835390401#32, 4022224774#32, 264347078#32, 604807628#32, 770255983#32, 1249150122#32, 1555081692#32, 1996064986#32, 2554220882#32, 2821834349#32, 2952996808#32, 3210313671#32, 3336571891#32, 3584528711#32, 113926993#32, 338241895#32, 666307205#32, 773529912#32, 1294757372#32, 1396182291#32, 1695183700#32, 1986661051#32, 2177026350#32, 2456956037#32, 2730485921#32, 2820302411#32, 3259730800#32, 3345764771#32, 3516065817#32, 3600352804#32, 4094571909#32, 275423344#32, 430227734#32, 506948616#32, 659060556#32, 883997877#32, 958139571#32, 1322822218#32, 1537002063#32, 1747873779#32, 1955562222#32, 2024104815#32, 2227730452#32, 2361852424#32, 2428436474#32, 2756734187#32, 3204031479#32, 3329325298#32]))] ⟨⟨_, rfl, Xm Gl rfl Qbn m2.h0 sZ⟩, trivial⟩ ?_
 exact ⟨rfl, m2.toExt⟩
set_option maxHeartbeats 4000000 in
theorem Qrn (vb : Value) (l : Z4) (w0 : World)  (hr : Rd (Jd w0) u8 vb l) (hl : l.length ≤ 35184372088832) : Xz prog 91 #[vb] w0 (fun r w1 => r = (agg u8 (U1 l)) ∧ Ext w0 w1) := by
 refine Qz (args := [vb]) func91 rfl ntmps91 results91 rfl ?_
 have m0 : Mem w0 (Qs w0) [] := aY w0
 refine sR <| Y5 (Q7 m0 Zh) fun w1 b2 m1 => ?_
 refine rN (sR ?_)
 refine Y5 (Qp u8 [] Qr m1 Zn Yr rfl (by simp [Bz]) rfl) fun w2 b21 m2 => Zm vb <| Vr (Xh (f := u8) (Hs := [(b21, .cells (cl u8 ([])) 5 (0, 0))]) (H := [_]) m2 (Z9.of u8 5 b21 ([])) rfl rfl (Rd.ofRest hr m2) Zn Zn Yr rfl Qr sD sD) ?_
 rintro sv3 w3 ⟨Hs3, m3, g3⟩
 replace g3 : Z9 u8 5 sv3 l Hs3 := g3
 refine Zx sv3 ?_
 refine rN (sR ?_)
 refine Zm sv3 <| Y5 (Qp u8 [128#8] Qr m3 Zn Yr rfl rfl rfl) fun w4 b25 m4 => Vr (Xh (f := u8) (Hs := Hs3) (H := [_, _]) (aC [_] Hs3 _ m4) g3 rfl rfl (bG m4.h0) Zn Zn Yr rfl Qr sD sD) ?_
 rintro sv5 w5 ⟨Hs5, m5, g5⟩
 replace g5 : Z9 u8 5 sv5 (l ++ ([128#8])) Hs5 := g5
 refine Zx sv5 ?_
 refine rN (Qa (Qh ?_))
 refine Y1 (fun g wv => ∃ (k : Nat) (pl : Z4) (sp : Value) (Hp : List (Nat × Obj)), (k ≤ ((119 - l.length % 64) % 64)) ∧ (pl = l ++ 128#8 :: aA k 0#8) ∧ (Z9 u8 5 sp pl Hp) ∧ g 0 = vb ∧ g 2 = (ptr b2 0) ∧ g 3 = sp ∧ Mem wv (Qs w0) (Hp ++ ([(b25, .cells (cl u8 ([128#8])) 5 (0, 0)), (b2, .cells (cl u8 (aA 32 0)) 23 (0, 0))]))) (fun g wv => l.length + ((119 - l.length % 64) % 64) + 2 - sllen (g 3)) ?_ ?_
 ·exact ⟨0, l ++ ([128#8]), sv5, Hs5, oM, Ya, g5, rfl, rfl, rfl, m5⟩
 rintro fr6 w7 ⟨k, pl, sp, Hp, hk, hpl, gp, s0, s2, s3, m7⟩
 have z3 := s3
 have hpn : pl.length = l.length + 1 + k := by rw [hpl]; simp; omega
 refine Qa (sR ?_)
 refine X9 s3 <| Qd (Yi (gp.rd m7) Zn rfl) <| Qd (Wp (b := 64) rfl rfl oM oM oM) <| Qd (Kz (b := 56) rfl rfl) <| rN ?_
 refine Zz rfl (fun hc8 => ?_) (fun hc8 => ?_)
 ·
  have hc8p := bne_iff_ne.1 hc8
  refine Qo (Qc (Gh (Qb ?_)))
  refine X9 s3 <| Y5 (Qp u8 [0#8] Qr m7 Zn Yr rfl rfl rfl) fun w9 b32 m9 => Vr (Xh (f := u8) (Hs := Hp) (H := [_, _, _]) (aC [_] Hp _ m9) gp rfl rfl (bG m9.h0) Zn Zn Yr rfl Qr sD sD) ?_
  rintro sv10 w10 ⟨Hs10, m10, g10⟩
  replace g10 : Z9 u8 5 sv10 (pl ++ ([0#8])) Hs10 := g10
  refine Zx sv10 ?_
  refine Zp (Qe (Qc ?_))
  have m11 := aF [_] _ (aC Hs10 [_] _ m10)
  exact ⟨⟨k + 1, pl ++ ([0#8]), sv10, Hs10, oM, (by rw [hpl, List.replicate_succ']; simp), g10, s0, s2, rfl, m11⟩, (by show l.length + ((119 - l.length % 64) % 64) + 2 - sllen sv10 < l.length + ((119 - l.length % 64) % 64) + 2 - sllen _; rw [z3, gp.sllen, Z9.sllen g10]; simp [hpn]; omega)⟩
 ·
  have hc8p := Yd hc8
  have hpn : pl.length = l.length + 1 + k := by rw [hpl]; simp; omega
  obtain rfl : k = ((119 - l.length % 64) % 64) := by omega
  subst hpl
  refine X3 ?_
  refine Qj (Qj (Xk ?_))
  refine sR <| X9 s0 <| Qd (Yi (Rd.ofRest hr m7) Zn rfl) <| Qd (Jg ⟨_, Fa⟩ Yh rfl) <| Qd (Eu (b := 8#64) rfl rfl) <| Zx (u64 ((aB 64 (l.length : Int)) * 8#64)) ?_
  refine rN (Qa (sR ?_))
  refine Zx (i64 7) ?_
  refine rN (Qh ?_)
  refine Vk 9 ?_
  refine Zq (Qa (sR ?_))
  refine Zm (i64 7) <| Qd (Uo 7 0) <| rN ?_
  have m12 := aF [_] _ (aC Hp [_] _ m7)
  refine Za rfl Yx ?_
  refine Qo (Qc (Qa (Qh (Qb ?_))))
  refine X9 s3 <| Zm (u64 ((aB 64 (l.length : Int)) * 8#64)) <| Zm (i64 7) <| Qd (v := (i64 56)) (Vw 8 7) <| Qd (X7 (b := 56) rfl rfl oM) <| Qd (X5 ⟨_, Yh⟩ V3 rfl) <| Y5 (Qp u8 [(((aB 64 (l.length : Int)) * 8#64) >>> 56).setWidth 8] Qr m12 Zn Yr rfl rfl rfl) fun w13 b48 m13 => Vr (Xh (f := u8) (Hs := Hp) (H := [_, _]) (aC [_] Hp _ m13) gp rfl rfl (bG m13.h0) Zn Zn Yr rfl Qr sD sD) ?_
  rintro sv14 w14 ⟨Hs14, m14, g14⟩
  replace g14 : Z9 u8 5 sv14 ((l ++ 128#8 :: aA ((119 - l.length % 64) % 64) 0#8) ++ ([(((aB 64 (l.length : Int)) * 8#64) >>> 56).setWidth 8])) Hs14 := g14
  refine Zx sv14 ?_
  refine Zp (Qe (Qb ?_))
  refine Zm (i64 7) <| Qd (v := (i64 6)) (V4 7 1) <| Zx (i64 6) ?_
  refine rN (Zq (Qa (sR ?_)))
  refine Zm (i64 6) <| Qd (Uo 6 0) <| rN ?_
  have m15 := aF [_] _ (aC Hs14 [_] _ m14)
  refine Za rfl Yx ?_
  refine Qo (Qc (Qa (Qh (Qb ?_))))
  refine Zm sv14 <| Zm (u64 ((aB 64 (l.length : Int)) * 8#64)) <| Zm (i64 6) <| Qd (v := (i64 48)) (Vw 8 6) <| Qd (X7 (b := 48) rfl rfl oM) <| Qd (X5 ⟨_, Yh⟩ V3 rfl) <| Y5 (Qp u8 [(((aB 64 (l.length : Int)) * 8#64) >>> 48).setWidth 8] Qr m15 Zn Yr rfl rfl rfl) fun w16 b48_1 m16 => Vr (Xh (f := u8) (Hs := Hs14) (H := [_, _]) (aC [_] Hs14 _ m16) g14 rfl rfl (bG m16.h0) Zn Zn Yr rfl Qr sD sD) ?_
  rintro sv17 w17 ⟨Hs17, m17, g17⟩
  replace g17 : Z9 u8 5 sv17 (((l ++ 128#8 :: aA ((119 - l.length % 64) % 64) 0#8) ++ ([(((aB 64 (l.length : Int)) * 8#64) >>> 56).setWidth 8])) ++ ([(((aB 64 (l.length : Int)) * 8#64) >>> 48).setWidth 8])) Hs17 := g17
  refine Zx sv17 ?_
  refine Zp (Qe (Qb ?_))
  refine Zm (i64 6) <| Qd (v := (i64 5)) (V4 6 1) <| Zx (i64 5) ?_
  refine rN (Zq (Qa (sR ?_)))
  refine Zm (i64 5) <| Qd (Uo 5 0) <| rN ?_
  have m18 := aF [_] _ (aC Hs17 [_] _ m17)
  refine Za rfl Yx ?_
  refine Qo (Qc (Qa (Qh (Qb ?_))))
  refine Zm sv17 <| Zm (u64 ((aB 64 (l.length : Int)) * 8#64)) <| Zm (i64 5) <| Qd (v := (i64 40)) (Vw 8 5) <| Qd (X7 (b := 40) rfl rfl oM) <| Qd (X5 ⟨_, Yh⟩ V3 rfl) <| Y5 (Qp u8 [(((aB 64 (l.length : Int)) * 8#64) >>> 40).setWidth 8] Qr m18 Zn Yr rfl rfl rfl) fun w19 b48_2 m19 => Vr (Xh (f := u8) (Hs := Hs17) (H := [_, _]) (aC [_] Hs17 _ m19) g17 rfl rfl (bG m19.h0) Zn Zn Yr rfl Qr sD sD) ?_
  rintro sv20 w20 ⟨Hs20, m20, g20⟩
  replace g20 : Z9 u8 5 sv20 ((((l ++ 128#8 :: aA ((119 - l.length % 64) % 64) 0#8) ++ ([(((aB 64 (l.length : Int)) * 8#64) >>> 56).setWidth 8])) ++ ([(((aB 64 (l.length : Int)) * 8#64) >>> 48).setWidth 8])) ++ ([(((aB 64 (l.length : Int)) * 8#64) >>> 40).setWidth 8])) Hs20 := g20
  refine Zx sv20 ?_
  refine Zp (Qe (Qb ?_))
  refine Zm (i64 5) <| Qd (v := (i64 4)) (V4 5 1) <| Zx (i64 4) ?_
  refine rN (Zq (Qa (sR ?_)))
  refine Zm (i64 4) <| Qd (Uo 4 0) <| rN ?_
  have m21 := aF [_] _ (aC Hs20 [_] _ m20)
  refine Za rfl Yx ?_
  refine Qo (Qc (Qa (Qh (Qb ?_))))
  refine Zm sv20 <| Zm (u64 ((aB 64 (l.length : Int)) * 8#64)) <| Zm (i64 4) <| Qd (v := (i64 32)) (Vw 8 4) <| Qd (X7 (b := 32) rfl rfl oM) <| Qd (X5 ⟨_, Yh⟩ V3 rfl) <| Y5 (Qp u8 [(((aB 64 (l.length : Int)) * 8#64) >>> 32).setWidth 8] Qr m21 Zn Yr rfl rfl rfl) fun w22 b48_3 m22 => Vr (Xh (f := u8) (Hs := Hs20) (H := [_, _]) (aC [_] Hs20 _ m22) g20 rfl rfl (bG m22.h0) Zn Zn Yr rfl Qr sD sD) ?_
  rintro sv23 w23 ⟨Hs23, m23, g23⟩
  replace g23 : Z9 u8 5 sv23 (((((l ++ 128#8 :: aA ((119 - l.length % 64) % 64) 0#8) ++ ([(((aB 64 (l.length : Int)) * 8#64) >>> 56).setWidth 8])) ++ ([(((aB 64 (l.length : Int)) * 8#64) >>> 48).setWidth 8])) ++ ([(((aB 64 (l.length : Int)) * 8#64) >>> 40).setWidth 8])) ++ ([(((aB 64 (l.length : Int)) * 8#64) >>> 32).setWidth 8])) Hs23 := g23
  refine Zx sv23 ?_
  refine Zp (Qe (Qb ?_))
  refine Zm (i64 4) <| Qd (v := (i64 3)) (V4 4 1) <| Zx (i64 3) ?_
  refine rN (Zq (Qa (sR ?_)))
  refine Zm (i64 3) <| Qd (Uo 3 0) <| rN ?_
  have m24 := aF [_] _ (aC Hs23 [_] _ m23)
  refine Za rfl Yx ?_
  refine Qo (Qc (Qa (Qh (Qb ?_))))
  refine Zm sv23 <| Zm (u64 ((aB 64 (l.length : Int)) * 8#64)) <| Zm (i64 3) <| Qd (v := (i64 24)) (Vw 8 3) <| Qd (X7 (b := 24) rfl rfl oM) <| Qd (X5 ⟨_, Yh⟩ V3 rfl) <| Y5 (Qp u8 [(((aB 64 (l.length : Int)) * 8#64) >>> 24).setWidth 8] Qr m24 Zn Yr rfl rfl rfl) fun w25 b48_4 m25 => Vr (Xh (f := u8) (Hs := Hs23) (H := [_, _]) (aC [_] Hs23 _ m25) g23 rfl rfl (bG m25.h0) Zn Zn Yr rfl Qr sD sD) ?_
  rintro sv26 w26 ⟨Hs26, m26, g26⟩
  replace g26 : Z9 u8 5 sv26 ((((((l ++ 128#8 :: aA ((119 - l.length % 64) % 64) 0#8) ++ ([(((aB 64 (l.length : Int)) * 8#64) >>> 56).setWidth 8])) ++ ([(((aB 64 (l.length : Int)) * 8#64) >>> 48).setWidth 8])) ++ ([(((aB 64 (l.length : Int)) * 8#64) >>> 40).setWidth 8])) ++ ([(((aB 64 (l.length : Int)) * 8#64) >>> 32).setWidth 8])) ++ ([(((aB 64 (l.length : Int)) * 8#64) >>> 24).setWidth 8])) Hs26 := g26
  refine Zx sv26 ?_
  refine Zp (Qe (Qb ?_))
  refine Zm (i64 3) <| Qd (v := (i64 2)) (V4 3 1) <| Zx (i64 2) ?_
  refine rN (Zq (Qa (sR ?_)))
  refine Zm (i64 2) <| Qd (Uo 2 0) <| rN ?_
  have m27 := aF [_] _ (aC Hs26 [_] _ m26)
  refine CW.abs (fun g => g 0 = vb ∧ g 2 = (ptr b2 0) ∧ g 3 = sv26 ∧ g 4 = (u64 ((aB 64 (l.length : Int)) * 8#64)) ∧ g 5 = (i64 2) ∧ g 30 = (bl ((((l ++ 128#8 :: aA ((119 - l.length % 64) % 64) 0#8).length : Int) % 64) != 56)) ∧ g 39 = (bl true) ∧ True) ⟨s0, s2, rfl, rfl, rfl, rfl, rfl, trivial⟩ ?_
  rintro fr28 ⟨s0, s2, s3, s4, s5, s30, s39, _⟩
  refine Za s39 Yx ?_
  refine Qo (Qc (Qa (Qh (Qb ?_))))
  refine X9 s3 <| X9 s4 <| X9 s5 <| Qd (v := (i64 16)) (Vw 8 2) <| Qd (X7 (b := 16) rfl rfl oM) <| Qd (X5 ⟨_, Yh⟩ V3 rfl) <| Y5 (Qp u8 [(((aB 64 (l.length : Int)) * 8#64) >>> 16).setWidth 8] Qr m27 Zn Yr rfl rfl rfl) fun w29 b48_5 m29 => Vr (Xh (f := u8) (Hs := Hs26) (H := [_, _]) (aC [_] Hs26 _ m29) g26 rfl rfl (bG m29.h0) Zn Zn Yr rfl Qr sD sD) ?_
  rintro sv30 w30 ⟨Hs30, m30, g30⟩
  replace g30 : Z9 u8 5 sv30 (((((((l ++ 128#8 :: aA ((119 - l.length % 64) % 64) 0#8) ++ ([(((aB 64 (l.length : Int)) * 8#64) >>> 56).setWidth 8])) ++ ([(((aB 64 (l.length : Int)) * 8#64) >>> 48).setWidth 8])) ++ ([(((aB 64 (l.length : Int)) * 8#64) >>> 40).setWidth 8])) ++ ([(((aB 64 (l.length : Int)) * 8#64) >>> 32).setWidth 8])) ++ ([(((aB 64 (l.length : Int)) * 8#64) >>> 24).setWidth 8])) ++ ([(((aB 64 (l.length : Int)) * 8#64) >>> 16).setWidth 8])) Hs30 := g30
  refine Zx sv30 ?_
  refine Zp (Qe (Qb ?_))
  refine X9 s5 <| Qd (v := (i64 1)) (V4 2 1) <| Zx (i64 1) ?_
  refine rN (Zq (Qa (sR ?_)))
  refine Zm (i64 1) <| Qd (Uo 1 0) <| rN ?_
  have m31 := aF [_] _ (aC Hs30 [_] _ m30)
  refine Za rfl Yx ?_
  refine Qo (Qc (Qa (Qh (Qb ?_))))
  refine Zm sv30 <| X9 s4 <| Zm (i64 1) <| Qd (v := (i64 8)) (Vw 8 1) <| Qd (X7 (b := 8) rfl rfl oM) <| Qd (X5 ⟨_, Yh⟩ V3 rfl) <| Y5 (Qp u8 [(((aB 64 (l.length : Int)) * 8#64) >>> 8).setWidth 8] Qr m31 Zn Yr rfl rfl rfl) fun w32 b48_6 m32 => Vr (Xh (f := u8) (Hs := Hs30) (H := [_, _]) (aC [_] Hs30 _ m32) g30 rfl rfl (bG m32.h0) Zn Zn Yr rfl Qr sD sD) ?_
  rintro sv33 w33 ⟨Hs33, m33, g33⟩
  replace g33 : Z9 u8 5 sv33 ((((((((l ++ 128#8 :: aA ((119 - l.length % 64) % 64) 0#8) ++ ([(((aB 64 (l.length : Int)) * 8#64) >>> 56).setWidth 8])) ++ ([(((aB 64 (l.length : Int)) * 8#64) >>> 48).setWidth 8])) ++ ([(((aB 64 (l.length : Int)) * 8#64) >>> 40).setWidth 8])) ++ ([(((aB 64 (l.length : Int)) * 8#64) >>> 32).setWidth 8])) ++ ([(((aB 64 (l.length : Int)) * 8#64) >>> 24).setWidth 8])) ++ ([(((aB 64 (l.length : Int)) * 8#64) >>> 16).setWidth 8])) ++ ([(((aB 64 (l.length : Int)) * 8#64) >>> 8).setWidth 8])) Hs33 := g33
  refine Zx sv33 ?_
  refine Zp (Qe (Qb ?_))
  refine Zm (i64 1) <| Qd (v := (i64 0)) (V4 1 1) <| Zx (i64 0) ?_
  refine rN (Zq (Qa (sR ?_)))
  refine Zm (i64 0) <| Qd (Uo 0 0) <| rN ?_
  have m34 := aF [_] _ (aC Hs33 [_] _ m33)
  refine Za rfl Yx ?_
  refine Qo (Qc (Qa (Qh (Qb ?_))))
  refine Zm sv33 <| X9 s4 <| Zm (i64 0) <| Qd (v := (i64 0)) (Vw 8 0) <| Qd (X7 (b := 0) rfl rfl oM) <| Qd (X5 ⟨_, Yh⟩ V3 rfl) <| Y5 (Qp u8 [(((aB 64 (l.length : Int)) * 8#64) >>> 0).setWidth 8] Qr m34 Zn Yr rfl rfl rfl) fun w35 b48_7 m35 => Vr (Xh (f := u8) (Hs := Hs33) (H := [_, _]) (aC [_] Hs33 _ m35) g33 rfl rfl (bG m35.h0) Zn Zn Yr rfl Qr sD sD) ?_
  rintro sv36 w36 ⟨Hs36, m36, g36⟩
  replace g36 : Z9 u8 5 sv36 (((((((((l ++ 128#8 :: aA ((119 - l.length % 64) % 64) 0#8) ++ ([(((aB 64 (l.length : Int)) * 8#64) >>> 56).setWidth 8])) ++ ([(((aB 64 (l.length : Int)) * 8#64) >>> 48).setWidth 8])) ++ ([(((aB 64 (l.length : Int)) * 8#64) >>> 40).setWidth 8])) ++ ([(((aB 64 (l.length : Int)) * 8#64) >>> 32).setWidth 8])) ++ ([(((aB 64 (l.length : Int)) * 8#64) >>> 24).setWidth 8])) ++ ([(((aB 64 (l.length : Int)) * 8#64) >>> 16).setWidth 8])) ++ ([(((aB 64 (l.length : Int)) * 8#64) >>> 8).setWidth 8])) ++ ([(((aB 64 (l.length : Int)) * 8#64) >>> 0).setWidth 8])) Hs36 := g36
  refine Zx sv36 ?_
  refine Zp (Qe (Qb ?_))
  refine Zm (i64 0) <| Qd (v := (i64 (-1))) (V4 0 1) <| Zx (i64 (-1)) ?_
  refine rN (Zq (Qa (sR ?_)))
  refine Zm (i64 (-1)) <| Qd (Uo (-1) 0) <| rN ?_
  have m37 := aF [_] _ (aC Hs36 [_] _ m36)
  refine Ja rfl Yx <| X3 ?_
  refine Qj (Qj (Xk ?_))
  refine Qa ?_
  have hM : ((((((((l ++ 128#8 :: aA ((119 - l.length % 64) % 64) 0#8) ++ ([(((aB 64 (l.length : Int)) * 8#64) >>> 56).setWidth 8])) ++ ([(((aB 64 (l.length : Int)) * 8#64) >>> 48).setWidth 8])) ++ ([(((aB 64 (l.length : Int)) * 8#64) >>> 40).setWidth 8])) ++ ([(((aB 64 (l.length : Int)) * 8#64) >>> 32).setWidth 8])) ++ ([(((aB 64 (l.length : Int)) * 8#64) >>> 24).setWidth 8])) ++ ([(((aB 64 (l.length : Int)) * 8#64) >>> 16).setWidth 8])) ++ ([(((aB 64 (l.length : Int)) * 8#64) >>> 8).setWidth 8])) ++ ([(((aB 64 (l.length : Int)) * 8#64) >>> 0).setWidth 8]) = (l ++ padR (aB 64 (l.length : Int) * 8#64) ((119 - l.length % 64) % 64)) := by simp [padR]
  obtain ⟨M, hMM⟩ : ∃ M, M = (l ++ padR (aB 64 (l.length : Int) * 8#64) ((119 - l.length % 64) % 64)) := ⟨_, rfl⟩
  have hMl : M.length = l.length + 9 + ((119 - l.length % 64) % 64) := by rw [hMM]; simp [padR]; omega
  have hMd : M.length % 64 = 0 := by clear m0; omega
  have gM38 := g36
  rw [hM, ← hMM] at gM38
  refine Qb <| U5 m37 (oc105 (Qpx) (c_table _)) fun w39 m39 => Y5 (Q7 m39 Qbn) fun w41 b6 m41 => Ye m41 (Qg (f := u32) (l := F9) Xb Qbn rfl rfl sD m41.h0 sZ rfl) fun w42 m42 => ?_
  refine rN (sR ?_)
  refine Qd (V9 u32 [1779033703#32, 3144134277#32, 1013904242#32, 2773480762#32, 1359893119#32, 2600822924#32, 528734635#32, 1541459225#32] Xb Uf Y6 Ze rfl rfl) <| Y5 (Q7 m42 Uf) fun w43 b7 m43 => Ye m43 (Qg (f := u32) (l := [1779033703#32, 3144134277#32, 1013904242#32, 2773480762#32, 1359893119#32, 2600822924#32, 528734635#32, 1541459225#32]) Xb Uf rfl rfl sD m43.h0 sZ rfl) fun w44 m44 => ?_
  refine rN (Qa (sR ?_))
  refine Zx (i64 0) ?_
  refine rN (Qh ?_)
  refine Y1 (fun g wv => ∃ (m : Nat) (h0 h1 h2 h3 h4 h5 h6 h7 : BitVec 32), (64 * m ≤ M.length) ∧ ([h0, h1, h2, h3, h4, h5, h6, h7] = hAt Qb9 M m) ∧ g 0 = vb ∧ g 2 = (ptr b2 0) ∧ g 3 = sv36 ∧ g 4 = (u64 ((aB 64 (l.length : Int)) * 8#64)) ∧ g 5 = (i64 (-1)) ∧ g 6 = (ptr b6 0) ∧ g 7 = (ptr b7 0) ∧ g 8 = (i64 ((64 * m : Nat) : Int)) ∧ g 30 = (bl ((((l ++ 128#8 :: aA ((119 - l.length % 64) % 64) 0#8).length : Int) % 64) != 56)) ∧ g 39 = (bl false) ∧ Mem wv (Qs w0) ([(b7, .cells (cl u32 ([h0, h1, h2, h3, h4, h5, h6, h7])) 152 (0, 0)), (b6, .cells (cl u32 F9) 160 (0, 0))] ++ (Hs36 ++ ([(b2, .cells (cl u8 (aA 32 0)) 23 (0, 0))])))) (fun g wv => ((M.length : Int) - RowKit.intOf (g 8)).toNat) ?_ ?_
  ·exact ⟨0, 1779033703#32, 3144134277#32, 1013904242#32, 2773480762#32, 1359893119#32, 2600822924#32, 528734635#32, 1541459225#32, oM, (hAt_zero Qb9 M).symm, s0, s2, rfl, s4, rfl, rfl, rfl, rfl, s30, rfl, m44⟩
  rintro fr45 w46 ⟨m, h0, h1, h2, h3, h4, h5, h6, h7, hm, hh, s0, s2, s3, s4, s5, s6, s7, s8, s30, s39, m46⟩
  have z8 := s8
  refine Qa (sR ?_)
  refine X9 s8 <| X9 s3 <| Qd (Yi (gM38.rd (aC [_, _] Hs36 _ m46)) Zn rfl) <| Qd (Xd rfl rfl) <| rN ?_
  refine Zz rfl (fun hc47 => ?_) (fun hc47 => ?_)
  ·
   have hc47p := of_decide_eq_true hc47
   have m64 : 64 * m + 64 ≤ M.length := by clear hMl; omega
   refine Qo (Qc (Qa (Qh (sR ?_))))
   refine Qd (Ve (ps := []) (c := (cl u32 (aA 64 0))) Qbn Gl Ze Ya rfl) <| Y5 (Q7 m46 Qbn) fun w48 b9 m48 => Ye m48 (Qg (f := u32) (l := aA 64 0) Xb Qbn rfl rfl sD m48.h0 sZ rfl) fun w49 m49 => ?_
   refine rN (sR ?_)
   refine Qd (Qn Y6 rfl Uf s7 m49.h1 sZ) <| Y5 (Q7 m49 Uf) fun w50 b10 m50 => Ye m50 (Qg (f := u32) (l := [h0, h1, h2, h3, h4, h5, h6, h7]) Xb Uf rfl rfl sD m50.h0 sZ rfl) fun w51 m51 => ?_
   refine rN (Qa (sR ?_))
   refine Zx (i64 0) ?_
   refine rN (Qh ?_)
   refine Y1 (fun g wv => ∃ (i : Nat) (wl : List (BitVec 32)) (v0 v1 v2 v3 v4 v5 v6 v7 : BitVec 32), (i ≤ 64) ∧ (wl = Wu ((M.drop (64 * m)).take 64) i) ∧ ([v0, v1, v2, v3, v4, v5, v6, v7] = Qam (Dj ((M.drop (64 * m)).take 64)) i [h0, h1, h2, h3, h4, h5, h6, h7]) ∧ g 0 = vb ∧ g 2 = (ptr b2 0) ∧ g 3 = sv36 ∧ g 4 = (u64 ((aB 64 (l.length : Int)) * 8#64)) ∧ g 5 = (i64 (-1)) ∧ g 6 = (ptr b6 0) ∧ g 7 = (ptr b7 0) ∧ g 8 = (i64 ((64 * m : Nat) : Int)) ∧ g 9 = (ptr b9 0) ∧ g 10 = (ptr b10 0) ∧ g 11 = (i64 (i : Int)) ∧ g 30 = (bl ((((l ++ 128#8 :: aA ((119 - l.length % 64) % 64) 0#8).length : Int) % 64) != 56)) ∧ g 39 = (bl false) ∧ g 55 = (bl (decide (((64 * m : Nat) : Int) < (M.length : Int)))) ∧ Mem wv (Qs w0) ([(b10, .cells (cl u32 ([v0, v1, v2, v3, v4, v5, v6, v7])) 152 (0, 0)), (b9, .cells (cl u32 wl) 160 (0, 0)), (b7, .cells (cl u32 ([h0, h1, h2, h3, h4, h5, h6, h7])) 152 (0, 0)), (b6, .cells (cl u32 F9) 160 (0, 0))] ++ (Hs36 ++ ([(b2, .cells (cl u8 (aA 32 0)) 23 (0, 0))])))) (fun g wv => (64 - RowKit.intOf (g 11)).toNat) ?_ ?_
   ·exact ⟨0, (aA 64 0), h0, h1, h2, h3, h4, h5, h6, h7, oM, (Qmu _).symm, (Qoi _ _).symm, s0, s2, s3, s4, s5, s6, s7, s8, rfl, rfl, rfl, s30, s39, rfl, m51⟩
   rintro fr52 w53 ⟨i, wl, v0, v1, v2, v3, v4, v5, v6, v7, hi, hw, hv, s0, s2, s3, s4, s5, s6, s7, s8, s9, s10, s11, s30, s39, s55, m53⟩
   have z11 := s11
   have hwl : wl.length = 64 := by rw [hw]; simp
   refine Qa (sR ?_)
   refine X9 s11 <| Qd (Xd (b := 64) rfl rfl) <| rN ?_
   refine Zz rfl (fun hc54 => ?_) (fun hc54 => ?_)
   ·
    have hc54p := of_decide_eq_true hc54
    refine Qo (Qc (Qa (Qh (Qa (sR ?_)))))
    refine X9 s11 <| Qd (Xd (b := 16) rfl rfl) <| rN ?_
    refine Ri (J := fun g wv => ∃ (wn : List (BitVec 32)), (wn = Wu ((M.drop (64 * m)).take 64) (i + 1)) ∧ g 0 = vb ∧ g 2 = (ptr b2 0) ∧ g 3 = sv36 ∧ g 4 = (u64 ((aB 64 (l.length : Int)) * 8#64)) ∧ g 5 = (i64 (-1)) ∧ g 6 = (ptr b6 0) ∧ g 7 = (ptr b7 0) ∧ g 8 = (i64 ((64 * m : Nat) : Int)) ∧ g 9 = (ptr b9 0) ∧ g 10 = (ptr b10 0) ∧ g 11 = (i64 (i : Int)) ∧ g 30 = (bl ((((l ++ 128#8 :: aA ((119 - l.length % 64) % 64) 0#8).length : Int) % 64) != 56)) ∧ g 39 = (bl false) ∧ g 55 = (bl (decide (((64 * m : Nat) : Int) < (M.length : Int)))) ∧ g 61 = (bl (decide ((i : Int) < 64))) ∧ g 65 = (bl (decide ((i : Int) < 16))) ∧ Mem wv (Qs w0) ([(b10, .cells (cl u32 ([v0, v1, v2, v3, v4, v5, v6, v7])) 152 (0, 0)), (b9, .cells (cl u32 wn) 160 (0, 0)), (b7, .cells (cl u32 ([h0, h1, h2, h3, h4, h5, h6, h7])) 152 (0, 0)), (b6, .cells (cl u32 F9) 160 (0, 0))] ++ (Hs36 ++ ([(b2, .cells (cl u8 (aA 32 0)) 23 (0, 0))])))) ?_ ?_
    ·skip
     refine Zz rfl (fun hc55 => ?_) (fun hc55 => ?_)
     ·
      have hc55p := of_decide_eq_true hc55
      refine sR <| Zx (i64 0) ?_
      refine rN (Gh ?_)
      refine Vk 5 ?_
      refine Zq (Qa (sR ?_))
      refine Zm (i64 0) <| Qd (Jc 0 4) <| rN <| Za rfl Yx ?_
      refine Qo (Qc (Qa (Qh ?_)))
      refine Xi (dl 16) 16 Xv <| Uh rfl s11 <| Uh rfl s11 <| X4 rfl (Zj (r := i) oM Gl Ze s9 rfl oM sD) <| Yj rfl (fun _ e' => Qi Xt rfl rfl (m53.ext e').h1 (Qu _ _ 0 sD)) <| X4 rfl (Ls (b := 256#32) rfl rfl) <| Uh rfl s3 <| Uh rfl s8 <| Uh rfl s11 <| X4 rfl (Ku (a := 4) rfl rfl oM oM) <| X4 rfl (Zg rfl rfl oM oM) <| J7 rfl (i64 0) ?_
      refine X4 rfl (Zg (b := 0) rfl rfl oM oM) <| Yj rfl (fun _ e' => Zo (gM38.rd (aC [_, _, _, _] Hs36 _ (m53.ext e'))) Zn Yr rfl rfl oM sD) <| Yj (v := (u8 (M.getD (((((64 * m : Nat) : Int) + (4 * (i : Int))) + 0 : Int).toNat) 0))) rfl (fun _ e' => Xy (l := M) (i := (((64 * m : Nat) : Int) + (4 * (i : Int))) + 0) (dflt := 0) (gM38.rd (aC [_, _, _, _] Hs36 _ (m53.ext e'))) V3 rfl oM sD rfl) <| X4 rfl (Kt ⟨_, V3⟩ Xt rfl) <| X4 rfl (Xx rfl rfl) <| Gf m53 fun w56 m56 => Qd (Zj (r := i) oM Gl Ze s9 rfl oM sD) <| Vs m56 (Xw (f := u32) (a := ((wl.getD i 0) * 256#32) + ((M.getD (((((64 * m : Nat) : Int) + (4 * (i : Int))) + 0 : Int).toNat) 0).setWidth 32)) Xb Ze rfl rfl m56.h1 sD (.inl (aJ _))) fun w57 m57 => ?_
      refine Zp (Qe (Qb ?_))
      refine Zm (i64 0) <| Qd (v := (i64 1)) (Yk 0 1) <| Zx (i64 1) ?_
      refine rN (Zq (Qa (sR ?_)))
      refine Zm (i64 1) <| Qd (Jc 1 4) <| rN <| Za rfl Yx ?_
      refine Qo (Qc (Qa (Qh ?_)))
      refine Xi (dl 16) 16 Xv <| Uh rfl s11 <| Uh rfl s11 <| X4 rfl (Zj (r := i) oM Gl Ze s9 rfl oM sD) <| Yj rfl (fun _ e' => Qi Xt rfl rfl (m57.ext e').h1 (Qu _ _ 0 sD)) <| X4 rfl (Ls (b := 256#32) rfl rfl) <| Uh rfl s3 <| Uh rfl s8 <| Uh rfl s11 <| X4 rfl (Ku (a := 4) rfl rfl oM oM) <| X4 rfl (Zg rfl rfl oM oM) <| J7 rfl (i64 1) ?_
      refine X4 rfl (Zg (b := 1) rfl rfl oM oM) <| Yj rfl (fun _ e' => Zo (gM38.rd (aC [_, _, _, _] Hs36 _ (m57.ext e'))) Zn Yr rfl rfl oM sD) <| Yj (v := (u8 (M.getD (((((64 * m : Nat) : Int) + (4 * (i : Int))) + 1 : Int).toNat) 0))) rfl (fun _ e' => Xy (l := M) (i := (((64 * m : Nat) : Int) + (4 * (i : Int))) + 1) (dflt := 0) (gM38.rd (aC [_, _, _, _] Hs36 _ (m57.ext e'))) V3 rfl oM sD rfl) <| X4 rfl (Kt ⟨_, V3⟩ Xt rfl) <| X4 rfl (Xx rfl rfl) <| Gf m57 fun w58 m58 => Qd (Zj (r := i) oM Gl Ze s9 rfl oM sD) <| Vs m58 (Xw (f := u32) (a := (((wl.set i (((wl.getD i 0) * 256#32) + ((M.getD (((((64 * m : Nat) : Int) + (4 * (i : Int))) + 0 : Int).toNat) 0).setWidth 32))).getD i 0) * 256#32) + ((M.getD (((((64 * m : Nat) : Int) + (4 * (i : Int))) + 1 : Int).toNat) 0).setWidth 32)) Xb Ze rfl rfl m58.h1 sD (.inl (aJ _))) fun w59 m59 => ?_
      refine Zp (Qe (Qb ?_))
      refine Zm (i64 1) <| Qd (v := (i64 2)) (Yk 1 1) <| Zx (i64 2) ?_
      refine rN (Zq (Qa (sR ?_)))
      refine Zm (i64 2) <| Qd (Jc 2 4) <| rN <| Za rfl Yx ?_
      refine Qo (Qc (Qa (Qh ?_)))
      refine Xi (dl 16) 16 Xv <| Uh rfl s11 <| Uh rfl s11 <| X4 rfl (Zj (r := i) oM Gl Ze s9 rfl oM sD) <| Yj rfl (fun _ e' => Qi Xt rfl rfl (m59.ext e').h1 (Qu _ _ 0 sD)) <| X4 rfl (Ls (b := 256#32) rfl rfl) <| Uh rfl s3 <| Uh rfl s8 <| Uh rfl s11 <| X4 rfl (Ku (a := 4) rfl rfl oM oM) <| X4 rfl (Zg rfl rfl oM oM) <| J7 rfl (i64 2) ?_
      refine X4 rfl (Zg (b := 2) rfl rfl oM oM) <| Yj rfl (fun _ e' => Zo (gM38.rd (aC [_, _, _, _] Hs36 _ (m59.ext e'))) Zn Yr rfl rfl oM sD) <| Yj (v := (u8 (M.getD (((((64 * m : Nat) : Int) + (4 * (i : Int))) + 2 : Int).toNat) 0))) rfl (fun _ e' => Xy (l := M) (i := (((64 * m : Nat) : Int) + (4 * (i : Int))) + 2) (dflt := 0) (gM38.rd (aC [_, _, _, _] Hs36 _ (m59.ext e'))) V3 rfl oM sD rfl) <| X4 rfl (Kt ⟨_, V3⟩ Xt rfl) <| X4 rfl (Xx rfl rfl) <| Gf m59 fun w60 m60 => Qd (Zj (r := i) oM Gl Ze s9 rfl oM sD) <| Vs m60 (Xw (f := u32) (a := ((((wl.set i (((wl.getD i 0) * 256#32) + ((M.getD (((((64 * m : Nat) : Int) + (4 * (i : Int))) + 0 : Int).toNat) 0).setWidth 32))).set i ((((wl.set i (((wl.getD i 0) * 256#32) + ((M.getD (((((64 * m : Nat) : Int) + (4 * (i : Int))) + 0 : Int).toNat) 0).setWidth 32))).getD i 0) * 256#32) + ((M.getD (((((64 * m : Nat) : Int) + (4 * (i : Int))) + 1 : Int).toNat) 0).setWidth 32))).getD i 0) * 256#32) + ((M.getD (((((64 * m : Nat) : Int) + (4 * (i : Int))) + 2 : Int).toNat) 0).setWidth 32)) Xb Ze rfl rfl m60.h1 sD (.inl (aJ _))) fun w61 m61 => ?_
      refine Zp (Qe (Qb ?_))
      refine Zm (i64 2) <| Qd (v := (i64 3)) (Yk 2 1) <| Zx (i64 3) ?_
      refine rN (Zq (Qa (sR ?_)))
      refine Zm (i64 3) <| Qd (Jc 3 4) <| rN <| Za rfl Yx ?_
      refine Qo (Qc (Qa (Qh ?_)))
      refine Xi (dl 16) 16 Xv <| Uh rfl s11 <| Uh rfl s11 <| X4 rfl (Zj (r := i) oM Gl Ze s9 rfl oM sD) <| Yj rfl (fun _ e' => Qi Xt rfl rfl (m61.ext e').h1 (Qu _ _ 0 sD)) <| X4 rfl (Ls (b := 256#32) rfl rfl) <| Uh rfl s3 <| Uh rfl s8 <| Uh rfl s11 <| X4 rfl (Ku (a := 4) rfl rfl oM oM) <| X4 rfl (Zg rfl rfl oM oM) <| J7 rfl (i64 3) ?_
      refine X4 rfl (Zg (b := 3) rfl rfl oM oM) <| Yj rfl (fun _ e' => Zo (gM38.rd (aC [_, _, _, _] Hs36 _ (m61.ext e'))) Zn Yr rfl rfl oM sD) <| Yj (v := (u8 (M.getD (((((64 * m : Nat) : Int) + (4 * (i : Int))) + 3 : Int).toNat) 0))) rfl (fun _ e' => Xy (l := M) (i := (((64 * m : Nat) : Int) + (4 * (i : Int))) + 3) (dflt := 0) (gM38.rd (aC [_, _, _, _] Hs36 _ (m61.ext e'))) V3 rfl oM sD rfl) <| X4 rfl (Kt ⟨_, V3⟩ Xt rfl) <| X4 rfl (Xx rfl rfl) <| Gf m61 fun w62 m62 => Qd (Zj (r := i) oM Gl Ze s9 rfl oM sD) <| Vs m62 (Xw (f := u32) (a := (((((wl.set i (((wl.getD i 0) * 256#32) + ((M.getD (((((64 * m : Nat) : Int) + (4 * (i : Int))) + 0 : Int).toNat) 0).setWidth 32))).set i ((((wl.set i (((wl.getD i 0) * 256#32) + ((M.getD (((((64 * m : Nat) : Int) + (4 * (i : Int))) + 0 : Int).toNat) 0).setWidth 32))).getD i 0) * 256#32) + ((M.getD (((((64 * m : Nat) : Int) + (4 * (i : Int))) + 1 : Int).toNat) 0).setWidth 32))).set i (((((wl.set i (((wl.getD i 0) * 256#32) + ((M.getD (((((64 * m : Nat) : Int) + (4 * (i : Int))) + 0 : Int).toNat) 0).setWidth 32))).set i ((((wl.set i (((wl.getD i 0) * 256#32) + ((M.getD (((((64 * m : Nat) : Int) + (4 * (i : Int))) + 0 : Int).toNat) 0).setWidth 32))).getD i 0) * 256#32) + ((M.getD (((((64 * m : Nat) : Int) + (4 * (i : Int))) + 1 : Int).toNat) 0).setWidth 32))).getD i 0) * 256#32) + ((M.getD (((((64 * m : Nat) : Int) + (4 * (i : Int))) + 2 : Int).toNat) 0).setWidth 32))).getD i 0) * 256#32) + ((M.getD (((((64 * m : Nat) : Int) + (4 * (i : Int))) + 3 : Int).toNat) 0).setWidth 32)) Xb Ze rfl rfl m62.h1 sD (.inl (aJ _))) fun w63 m63 => ?_
      refine Zp (Qe ?_)
      refine CW.abs (fun g => g 0 = vb ∧ g 2 = (ptr b2 0) ∧ g 3 = sv36 ∧ g 4 = (u64 ((aB 64 (l.length : Int)) * 8#64)) ∧ g 5 = (i64 (-1)) ∧ g 6 = (ptr b6 0) ∧ g 7 = (ptr b7 0) ∧ g 8 = (i64 ((64 * m : Nat) : Int)) ∧ g 9 = (ptr b9 0) ∧ g 10 = (ptr b10 0) ∧ g 11 = (i64 (i : Int)) ∧ g 12 = (i64 3) ∧ g 30 = (bl ((((l ++ 128#8 :: aA ((119 - l.length % 64) % 64) 0#8).length : Int) % 64) != 56)) ∧ g 39 = (bl false) ∧ g 55 = (bl (decide (((64 * m : Nat) : Int) < (M.length : Int)))) ∧ g 61 = (bl (decide ((i : Int) < 64))) ∧ g 65 = (bl (decide ((i : Int) < 16))) ∧ g 67 = (bl true) ∧ True) ⟨s0, s2, s3, s4, s5, s6, s7, s8, s9, s10, s11, rfl, s30, s39, s55, rfl, rfl, rfl, trivial⟩ ?_
      rintro fr64 ⟨s0, s2, s3, s4, s5, s6, s7, s8, s9, s10, s11, s12, s30, s39, s55, s61, s65, s67, _⟩
      refine Qb <| X9 s12 <| Qd (v := (i64 4)) (Yk 3 1) <| Zx (i64 4) ?_
      refine rN (Zq (Qa (sR ?_)))
      refine Zm (i64 4) <| Qd (Jc 4 4) <| rN <| Ja rfl Yx <| X3 ?_
      refine Qj (Qj (Xk ?_))
      refine Qc ?_
      have hwn : (((wl.set i (((wl.getD i 0) * 256#32) + ((M.getD (((((64 * m : Nat) : Int) + (4 * (i : Int))) + 0 : Int).toNat) 0).setWidth 32))).set i ((((wl.set i (((wl.getD i 0) * 256#32) + ((M.getD (((((64 * m : Nat) : Int) + (4 * (i : Int))) + 0 : Int).toNat) 0).setWidth 32))).getD i 0) * 256#32) + ((M.getD (((((64 * m : Nat) : Int) + (4 * (i : Int))) + 1 : Int).toNat) 0).setWidth 32))).set i (((((wl.set i (((wl.getD i 0) * 256#32) + ((M.getD (((((64 * m : Nat) : Int) + (4 * (i : Int))) + 0 : Int).toNat) 0).setWidth 32))).set i ((((wl.set i (((wl.getD i 0) * 256#32) + ((M.getD (((((64 * m : Nat) : Int) + (4 * (i : Int))) + 0 : Int).toNat) 0).setWidth 32))).getD i 0) * 256#32) + ((M.getD (((((64 * m : Nat) : Int) + (4 * (i : Int))) + 1 : Int).toNat) 0).setWidth 32))).getD i 0) * 256#32) + ((M.getD (((((64 * m : Nat) : Int) + (4 * (i : Int))) + 2 : Int).toNat) 0).setWidth 32))).set i ((((((wl.set i (((wl.getD i 0) * 256#32) + ((M.getD (((((64 * m : Nat) : Int) + (4 * (i : Int))) + 0 : Int).toNat) 0).setWidth 32))).set i ((((wl.set i (((wl.getD i 0) * 256#32) + ((M.getD (((((64 * m : Nat) : Int) + (4 * (i : Int))) + 0 : Int).toNat) 0).setWidth 32))).getD i 0) * 256#32) + ((M.getD (((((64 * m : Nat) : Int) + (4 * (i : Int))) + 1 : Int).toNat) 0).setWidth 32))).set i (((((wl.set i (((wl.getD i 0) * 256#32) + ((M.getD (((((64 * m : Nat) : Int) + (4 * (i : Int))) + 0 : Int).toNat) 0).setWidth 32))).set i ((((wl.set i (((wl.getD i 0) * 256#32) + ((M.getD (((((64 * m : Nat) : Int) + (4 * (i : Int))) + 0 : Int).toNat) 0).setWidth 32))).getD i 0) * 256#32) + ((M.getD (((((64 * m : Nat) : Int) + (4 * (i : Int))) + 1 : Int).toNat) 0).setWidth 32))).getD i 0) * 256#32) + ((M.getD (((((64 * m : Nat) : Int) + (4 * (i : Int))) + 2 : Int).toNat) 0).setWidth 32))).getD i 0) * 256#32) + ((M.getD (((((64 * m : Nat) : Int) + (4 * (i : Int))) + 3 : Int).toNat) 0).setWidth 32)) = Wu ((M.drop (64 * m)).take 64) (i + 1) := by
       have e0 : (((64 * m : Nat) : Int) + 4 * (i : Int) + 0).toNat = 64 * m + (4 * i + 0) := by omega
       have e1 : (((64 * m : Nat) : Int) + 4 * (i : Int) + 1).toNat = 64 * m + (4 * i + 1) := by omega
       have e2 : (((64 * m : Nat) : Int) + 4 * (i : Int) + 2).toNat = 64 * m + (4 * i + 2) := by omega
       have e3 : (((64 * m : Nat) : Int) + 4 * (i : Int) + 3).toNat = 64 * m + (4 * i + 3) := by omega
       simp only [e0, e1, e2, e3]
       exact Qmt ((M.drop (64 * m)).take 64) i oM _ _ _ _ (Qgf M m (4 * i) oM oM) (Qgf M m (4 * i + 1) oM oM) (Qgf M m (4 * i + 2) oM oM) (Qgf M m (4 * i + 3) oM oM) wl hw
      exact ⟨((((wl.set i (((wl.getD i 0) * 256#32) + ((M.getD (((((64 * m : Nat) : Int) + (4 * (i : Int))) + 0 : Int).toNat) 0).setWidth 32))).set i ((((wl.set i (((wl.getD i 0) * 256#32) + ((M.getD (((((64 * m : Nat) : Int) + (4 * (i : Int))) + 0 : Int).toNat) 0).setWidth 32))).getD i 0) * 256#32) + ((M.getD (((((64 * m : Nat) : Int) + (4 * (i : Int))) + 1 : Int).toNat) 0).setWidth 32))).set i (((((wl.set i (((wl.getD i 0) * 256#32) + ((M.getD (((((64 * m : Nat) : Int) + (4 * (i : Int))) + 0 : Int).toNat) 0).setWidth 32))).set i ((((wl.set i (((wl.getD i 0) * 256#32) + ((M.getD (((((64 * m : Nat) : Int) + (4 * (i : Int))) + 0 : Int).toNat) 0).setWidth 32))).getD i 0) * 256#32) + ((M.getD (((((64 * m : Nat) : Int) + (4 * (i : Int))) + 1 : Int).toNat) 0).setWidth 32))).getD i 0) * 256#32) + ((M.getD (((((64 * m : Nat) : Int) + (4 * (i : Int))) + 2 : Int).toNat) 0).setWidth 32))).set i ((((((wl.set i (((wl.getD i 0) * 256#32) + ((M.getD (((((64 * m : Nat) : Int) + (4 * (i : Int))) + 0 : Int).toNat) 0).setWidth 32))).set i ((((wl.set i (((wl.getD i 0) * 256#32) + ((M.getD (((((64 * m : Nat) : Int) + (4 * (i : Int))) + 0 : Int).toNat) 0).setWidth 32))).getD i 0) * 256#32) + ((M.getD (((((64 * m : Nat) : Int) + (4 * (i : Int))) + 1 : Int).toNat) 0).setWidth 32))).set i (((((wl.set i (((wl.getD i 0) * 256#32) + ((M.getD (((((64 * m : Nat) : Int) + (4 * (i : Int))) + 0 : Int).toNat) 0).setWidth 32))).set i ((((wl.set i (((wl.getD i 0) * 256#32) + ((M.getD (((((64 * m : Nat) : Int) + (4 * (i : Int))) + 0 : Int).toNat) 0).setWidth 32))).getD i 0) * 256#32) + ((M.getD (((((64 * m : Nat) : Int) + (4 * (i : Int))) + 1 : Int).toNat) 0).setWidth 32))).getD i 0) * 256#32) + ((M.getD (((((64 * m : Nat) : Int) + (4 * (i : Int))) + 2 : Int).toNat) 0).setWidth 32))).getD i 0) * 256#32) + ((M.getD (((((64 * m : Nat) : Int) + (4 * (i : Int))) + 3 : Int).toNat) 0).setWidth 32))), hwn, s0, s2, s3, s4, s5, s6, s7, s8, s9, s10, s11, s30, s39, s55, s61, s65, m63⟩
     ·
      have hc55p := of_decide_eq_false hc55
      refine Xi (dl 46) 46 Xv <| Uh rfl s11 <| Uh rfl s11 <| X4 rfl (Yg (b := 2) rfl rfl oM oM) <| X4 rfl (Zj (r := ((i : Int) - 2 : Int).toNat) oM Gl Ze s9 rfl oM sD) <| Yj (v := (u32 (wl.getD (((i : Int) - 2 : Int).toNat) 0))) rfl (fun _ e' => Qi Xt rfl rfl (m53.ext e').h1 (Qu _ _ 0 sD)) <| Wy rfl rfl (fun w65 _ew65 => Qeu (Xl rfl rfl) (Ld (wl.getD (((i : Int) - 2 : Int).toNat) 0) _ _ sD sD)) <| Uh rfl s11 <| X4 rfl (Yg (b := 2) rfl rfl oM oM) <| X4 rfl (Zj (r := ((i : Int) - 2 : Int).toNat) oM Gl Ze s9 rfl oM sD) <| Yj (v := (u32 (wl.getD (((i : Int) - 2 : Int).toNat) 0))) rfl (fun _ e' => Qi Xt rfl rfl (m53.ext e').h1 (Qu _ _ 0 sD)) <| Wy rfl rfl (fun w68 _ew68 => Qeu (Xl rfl rfl) (Ld (wl.getD (((i : Int) - 2 : Int).toNat) 0) _ _ sD sD)) ?_
      refine X4 rfl (Jm rfl rfl) <| Uh rfl s11 <| X4 rfl (Yg (b := 2) rfl rfl oM oM) <| X4 rfl (Zj (r := ((i : Int) - 2 : Int).toNat) oM Gl Ze s9 rfl oM sD) <| Yj (v := (u32 (wl.getD (((i : Int) - 2 : Int).toNat) 0))) rfl (fun _ e' => Qi Xt rfl rfl (m53.ext e').h1 (Qu _ _ 0 sD)) <| X4 rfl (Ul (b := 10) rfl rfl oM) <| X4 rfl (Jm rfl rfl) <| Uh rfl s11 <| X4 rfl (Yg (b := 7) rfl rfl oM oM) <| X4 rfl (Zj (r := ((i : Int) - 7 : Int).toNat) oM Gl Ze s9 rfl oM sD) <| Yj (v := (u32 (wl.getD (((i : Int) - 7 : Int).toNat) 0))) rfl (fun _ e' => Qi Xt rfl rfl (m53.ext e').h1 (Qu _ _ 0 sD)) <| X4 rfl (Xx rfl rfl) ?_
      refine Uh rfl s11 <| X4 rfl (Yg (b := 15) rfl rfl oM oM) <| X4 rfl (Zj (r := ((i : Int) - 15 : Int).toNat) oM Gl Ze s9 rfl oM sD) <| Yj (v := (u32 (wl.getD (((i : Int) - 15 : Int).toNat) 0))) rfl (fun _ e' => Qi Xt rfl rfl (m53.ext e').h1 (Qu _ _ 0 sD)) <| Wy rfl rfl (fun w71 _ew71 => Qeu (Xl rfl rfl) (Ld (wl.getD (((i : Int) - 15 : Int).toNat) 0) _ _ sD sD)) <| Uh rfl s11 <| X4 rfl (Yg (b := 15) rfl rfl oM oM) <| X4 rfl (Zj (r := ((i : Int) - 15 : Int).toNat) oM Gl Ze s9 rfl oM sD) <| Yj (v := (u32 (wl.getD (((i : Int) - 15 : Int).toNat) 0))) rfl (fun _ e' => Qi Xt rfl rfl (m53.ext e').h1 (Qu _ _ 0 sD)) <| Wy rfl rfl (fun w74 _ew74 => Qeu (Xl rfl rfl) (Ld (wl.getD (((i : Int) - 15 : Int).toNat) 0) _ _ sD sD)) <| X4 rfl (Jm rfl rfl) <| Uh rfl s11 ?_
      refine X4 rfl (Yg (b := 15) rfl rfl oM oM) <| X4 rfl (Zj (r := ((i : Int) - 15 : Int).toNat) oM Gl Ze s9 rfl oM sD) <| Yj (v := (u32 (wl.getD (((i : Int) - 15 : Int).toNat) 0))) rfl (fun _ e' => Qi Xt rfl rfl (m53.ext e').h1 (Qu _ _ 0 sD)) <| X4 rfl (Ul (b := 3) rfl rfl oM) <| X4 rfl (Jm rfl rfl) <| X4 rfl (Xx rfl rfl) <| Uh rfl s11 <| X4 rfl (Yg (b := 16) rfl rfl oM oM) <| X4 rfl (Zj (r := ((i : Int) - 16 : Int).toNat) oM Gl Ze s9 rfl oM sD) <| Yj (v := (u32 (wl.getD (((i : Int) - 16 : Int).toNat) 0))) rfl (fun _ e' => Qi Xt rfl rfl (m53.ext e').h1 (Qu _ _ 0 sD)) <| X4 rfl (Xx rfl rfl) <| Gf m53 fun w77 m77 => Qd (Zj (r := i) oM Gl Ze s9 rfl oM sD) <| Vs m77 (Xw (f := u32) (a := (((((Y9 (wl.getD (((i : Int) - 2 : Int).toNat) 0) (17 : Int)) ^^^ (Y9 (wl.getD (((i : Int) - 2 : Int).toNat) 0) (19 : Int))) ^^^ ((wl.getD (((i : Int) - 2 : Int).toNat) 0) >>> 10)) + (wl.getD (((i : Int) - 7 : Int).toNat) 0)) + (((Y9 (wl.getD (((i : Int) - 15 : Int).toNat) 0) (7 : Int)) ^^^ (Y9 (wl.getD (((i : Int) - 15 : Int).toNat) 0) (18 : Int))) ^^^ ((wl.getD (((i : Int) - 15 : Int).toNat) 0) >>> 3))) + (wl.getD (((i : Int) - 16 : Int).toNat) 0)) Xb Ze rfl rfl m77.h1 sD (.inl (aJ _))) fun w78 m78 => rN ?_
      have hwn : wl.set i ((((((Y9 (wl.getD (((i : Int) - 2 : Int).toNat) 0) (17 : Int)) ^^^ (Y9 (wl.getD (((i : Int) - 2 : Int).toNat) 0) (19 : Int))) ^^^ ((wl.getD (((i : Int) - 2 : Int).toNat) 0) >>> 10)) + (wl.getD (((i : Int) - 7 : Int).toNat) 0)) + (((Y9 (wl.getD (((i : Int) - 15 : Int).toNat) 0) (7 : Int)) ^^^ (Y9 (wl.getD (((i : Int) - 15 : Int).toNat) 0) (18 : Int))) ^^^ ((wl.getD (((i : Int) - 15 : Int).toNat) 0) >>> 3))) + (wl.getD (((i : Int) - 16 : Int).toNat) 0)) = Wu ((M.drop (64 * m)).take 64) (i + 1) := by
       have e16 : ((i : Int) - 16).toNat = i - 16 := by omega
       have e7 : ((i : Int) - 7).toNat = i - 7 := by omega
       have e15 : ((i : Int) - 15).toNat = i - 15 := by omega
       have e2 : ((i : Int) - 2).toNat = i - 2 := by omega
       simp only [e16, e7, e15, e2]
       exact Qod ((M.drop (64 * m)).take 64) i oM oM wl hw
      exact ⟨(wl.set i ((((((Y9 (wl.getD (((i : Int) - 2 : Int).toNat) 0) (17 : Int)) ^^^ (Y9 (wl.getD (((i : Int) - 2 : Int).toNat) 0) (19 : Int))) ^^^ ((wl.getD (((i : Int) - 2 : Int).toNat) 0) >>> 10)) + (wl.getD (((i : Int) - 7 : Int).toNat) 0)) + (((Y9 (wl.getD (((i : Int) - 15 : Int).toNat) 0) (7 : Int)) ^^^ (Y9 (wl.getD (((i : Int) - 15 : Int).toNat) 0) (18 : Int))) ^^^ ((wl.getD (((i : Int) - 15 : Int).toNat) 0) >>> 3))) + (wl.getD (((i : Int) - 16 : Int).toNat) 0))), hwn, s0, s2, s3, s4, s5, s6, s7, s8, s9, s10, s11, s30, s39, s55, rfl, rfl, m78⟩
    rintro fr79 w80 ⟨wn, hwn, s0, s2, s3, s4, s5, s6, s7, s8, s9, s10, s11, s30, s39, s55, s61, s65, m80⟩
    have hwnl : wn.length = 64 := by rw [hwn, Qaj]
    refine sR <| Qd (Xr 4 4 Y6 Ze s10) <| Qd (v := (u32 v4)) (Qi Xt rfl rfl m80.h0 (Qu _ _ 0 Ya)) <| Qd (Xr 5 5 Y6 Ze s10) <| Qd (v := (u32 v5)) (Qi Xt rfl rfl m80.h0 (Qu _ _ 0 Ya)) <| Qd (Ew rfl rfl) <| Qd (Xr 4 4 Y6 Ze s10) <| Qd (v := (u32 v4)) (Qi Xt rfl rfl m80.h0 (Qu _ _ 0 Ya)) <| Qd (Qkb rfl) <| Qd (Xr 6 6 Y6 Ze s10) <| Qd (v := (u32 v6)) (Qi Xt rfl rfl m80.h0 (Qu _ _ 0 Ya)) <| Qd (Ew rfl rfl) ?_
    refine Qd (Jm rfl rfl) <| Zx (u32 ((v4 &&& v5) ^^^ ((~~~v4) &&& v6))) ?_
    refine rN (sR ?_)
    refine Qd (Xr 0 0 Y6 Ze s10) <| Qd (v := (u32 v0)) (Qi Xt rfl rfl m80.h0 (Qu _ _ 0 Ya)) <| Qd (Xr 1 1 Y6 Ze s10) <| Qd (v := (u32 v1)) (Qi Xt rfl rfl m80.h0 (Qu _ _ 0 Ya)) <| Qd (Ew rfl rfl) <| Qd (Xr 0 0 Y6 Ze s10) <| Qd (v := (u32 v0)) (Qi Xt rfl rfl m80.h0 (Qu _ _ 0 Ya)) <| Qd (Xr 2 2 Y6 Ze s10) <| Qd (v := (u32 v2)) (Qi Xt rfl rfl m80.h0 (Qu _ _ 0 Ya)) <| Qd (Ew rfl rfl) <| Qd (Jm rfl rfl) <| Qd (Xr 1 1 Y6 Ze s10) ?_
    refine Qd (v := (u32 v1)) (Qi Xt rfl rfl m80.h0 (Qu _ _ 0 Ya)) <| Qd (Xr 2 2 Y6 Ze s10) <| Qd (v := (u32 v2)) (Qi Xt rfl rfl m80.h0 (Qu _ _ 0 Ya)) <| Qd (Ew rfl rfl) <| Qd (Jm rfl rfl) <| Zx (u32 (((v0 &&& v1) ^^^ (v0 &&& v2)) ^^^ (v1 &&& v2))) ?_
    refine rN (Qa ?_)
    refine Xi (dl 23) 23 Xv <| X4 rfl (Xr 7 7 Y6 Ze s10) <| Yj (v := (u32 v7)) rfl (fun _ e' => Qi Xt rfl rfl (m80.ext e').h0 (Qu _ _ 0 Ya)) <| X4 rfl (Xr 4 4 Y6 Ze s10) <| Yj (v := (u32 v4)) rfl (fun _ e' => Qi Xt rfl rfl (m80.ext e').h0 (Qu _ _ 0 Ya)) <| Wy rfl rfl (fun w81 _ew81 => Qeu (Xl rfl rfl) (Ld v4 _ _ sD sD)) <| X4 rfl (Xr 4 4 Y6 Ze s10) <| Yj (v := (u32 v4)) rfl (fun _ e' => Qi Xt rfl rfl (m80.ext e').h0 (Qu _ _ 0 Ya)) <| Wy rfl rfl (fun w84 _ew84 => Qeu (Xl rfl rfl) (Ld v4 _ _ sD sD)) <| X4 rfl (Jm rfl rfl) <| X4 rfl (Xr 4 4 Y6 Ze s10) <| Yj (v := (u32 v4)) rfl (fun _ e' => Qi Xt rfl rfl (m80.ext e').h0 (Qu _ _ 0 Ya)) ?_
    refine Wy rfl rfl (fun w87 _ew87 => Qeu (Xl rfl rfl) (Ld v4 _ _ sD sD)) <| X4 rfl (Jm rfl rfl) <| X4 rfl (Xx rfl rfl) <| J7 rfl (u32 ((v4 &&& v5) ^^^ ((~~~v4) &&& v6))) <| X4 rfl (Xx rfl rfl) <| Uh rfl s11 <| X4 rfl (Zj (r := i) oM Gl Ze s6 rfl oM sD) <| Yj rfl (fun _ e' => Qi Xt rfl rfl (m80.ext e').h3 (Qu _ _ 0 sD)) <| X4 rfl (Xx rfl rfl) <| Uh rfl s11 <| X4 rfl (Zj (r := i) oM Gl Ze s9 rfl oM sD) <| Yj rfl (fun _ e' => Qi Xt rfl rfl (m80.ext e').h1 (Qu _ _ 0 sD)) ?_
    refine Gf m80 fun w90 m90 => Qd (Xx rfl rfl) <| Tc rfl ?_
    refine rN (Qa ?_)
    refine Xi (dl 12) 12 Xv <| X4 rfl (Xr 0 0 Y6 Ze s10) <| Yj (v := (u32 v0)) rfl (fun _ e' => Qi Xt rfl rfl (m90.ext e').h0 (Qu _ _ 0 Ya)) <| Wy rfl rfl (fun w91 _ew91 => Qeu (Xl rfl rfl) (Ld v0 _ _ sD sD)) <| X4 rfl (Xr 0 0 Y6 Ze s10) <| Yj (v := (u32 v0)) rfl (fun _ e' => Qi Xt rfl rfl (m90.ext e').h0 (Qu _ _ 0 Ya)) <| Wy rfl rfl (fun w94 _ew94 => Qeu (Xl rfl rfl) (Ld v0 _ _ sD sD)) <| X4 rfl (Jm rfl rfl) <| X4 rfl (Xr 0 0 Y6 Ze s10) <| Yj (v := (u32 v0)) rfl (fun _ e' => Qi Xt rfl rfl (m90.ext e').h0 (Qu _ _ 0 Ya)) <| Wy rfl rfl (fun w97 _ew97 => Qeu (Xl rfl rfl) (Ld v0 _ _ sD sD)) <| X4 rfl (Jm rfl rfl) ?_
    refine J7 rfl (u32 (((v0 &&& v1) ^^^ (v0 &&& v2)) ^^^ (v1 &&& v2))) <| Gf m90 fun w100 m100 => Qd (Xx rfl rfl) <| Tc rfl ?_
    refine rN (Qa (sR ?_))
    refine Zx (i64 7) ?_
    refine rN (Qh ?_)
    refine Vk 8 ?_
    refine Zq (Qa (sR ?_))
    refine Zm (i64 7) <| Qd (Qht 7 0) <| rN <| Za rfl Yx ?_
    refine Qo (Qc (Qa (Qh (Qb ?_))))
    refine Zm (i64 7) <| Zm (i64 7) <| Qd (v := (i64 6)) (V4 7 1) <| Qd (Xr 6 6 Y6 Ze s10) <| Qd (v := (u32 v6)) (Qi Xt rfl rfl m100.h0 (Qu _ _ 0 Ya)) <| Qd (Xr 7 7 Y6 Ze s10) <| Ye m100 (Zi (f := u32) (l' := [v0, v1, v2, v3, v4, v5, v6, v6]) rfl Xb Ze rfl rfl m100.h0 Ya (.inl (aJ _))) fun w101 m101 => ?_
    refine Zp (Qe (Qb ?_))
    refine Zm (i64 7) <| Qd (v := (i64 6)) (V4 7 1) <| Zx (i64 6) <| rN ?_
    refine CR.abs (fun g => g 0 = vb ∧ g 2 = (ptr b2 0) ∧ g 3 = sv36 ∧ g 4 = (u64 ((aB 64 (l.length : Int)) * 8#64)) ∧ g 5 = (i64 (-1)) ∧ g 6 = (ptr b6 0) ∧ g 7 = (ptr b7 0) ∧ g 8 = (i64 ((64 * m : Nat) : Int)) ∧ g 9 = (ptr b9 0) ∧ g 10 = (ptr b10 0) ∧ g 11 = (i64 (i : Int)) ∧ g 13 = (u32 ((v4 &&& v5) ^^^ ((~~~v4) &&& v6))) ∧ g 14 = (u32 (((v0 &&& v1) ^^^ (v0 &&& v2)) ^^^ (v1 &&& v2))) ∧ g 15 = (u32 ((((v7 + (((Y9 v4 (6 : Int)) ^^^ (Y9 v4 (11 : Int))) ^^^ (Y9 v4 (25 : Int)))) + ((v4 &&& v5) ^^^ ((~~~v4) &&& v6))) + (F9.getD i 0)) + (wn.getD i 0))) ∧ g 16 = (u32 ((((Y9 v0 (2 : Int)) ^^^ (Y9 v0 (13 : Int))) ^^^ (Y9 v0 (22 : Int))) + (((v0 &&& v1) ^^^ (v0 &&& v2)) ^^^ (v1 &&& v2)))) ∧ g 17 = (i64 6) ∧ g 30 = (bl ((((l ++ 128#8 :: aA ((119 - l.length % 64) % 64) 0#8).length : Int) % 64) != 56)) ∧ g 39 = (bl false) ∧ g 55 = (bl (decide (((64 * m : Nat) : Int) < (M.length : Int)))) ∧ g 61 = (bl (decide ((i : Int) < 64))) ∧ g 65 = (bl (decide ((i : Int) < 16))) ∧ g 201 = (bl true) ∧ True) ⟨s0, s2, s3, s4, s5, s6, s7, s8, s9, s10, s11, rfl, rfl, rfl, rfl, rfl, s30, s39, s55, s61, s65, rfl, trivial⟩ ?_
    rintro fr102 ⟨s0, s2, s3, s4, s5, s6, s7, s8, s9, s10, s11, s13, s14, s15, s16, s17, s30, s39, s55, s61, s65, s201, _⟩
    refine Zq (Qa (sR ?_))
    refine X9 s17 <| Qd (Qht 6 0) <| rN <| Za rfl Yx ?_
    refine Qo (Qc (Qa (Qh (Qb ?_))))
    refine X9 s17 <| X9 s17 <| Qd (v := (i64 5)) (V4 6 1) <| Qd (Xr 5 5 Y6 Ze s10) <| Qd (v := (u32 v5)) (Qi Xt rfl rfl m101.h0 (Qu _ _ 0 Ya)) <| Qd (Xr 6 6 Y6 Ze s10) <| Ye m101 (Zi (f := u32) (l' := [v0, v1, v2, v3, v4, v5, v5, v6]) rfl Xb Ze rfl rfl m101.h0 Ya (.inl (aJ _))) fun w103 m103 => ?_
    refine Zp (Qe (Qb ?_))
    refine X9 s17 <| Qd (v := (i64 5)) (V4 6 1) <| Zx (i64 5) ?_
    refine rN (Zq (Qa (sR ?_)))
    refine Zm (i64 5) <| Qd (Qht 5 0) <| rN <| Za rfl Yx ?_
    refine Qo (Qc (Qa (Qh (Qb ?_))))
    refine Zm (i64 5) <| Zm (i64 5) <| Qd (v := (i64 4)) (V4 5 1) <| Qd (Xr 4 4 Y6 Ze s10) <| Qd (v := (u32 v4)) (Qi Xt rfl rfl m103.h0 (Qu _ _ 0 Ya)) <| Qd (Xr 5 5 Y6 Ze s10) <| Ye m103 (Zi (f := u32) (l' := [v0, v1, v2, v3, v4, v4, v5, v6]) rfl Xb Ze rfl rfl m103.h0 Ya (.inl (aJ _))) fun w104 m104 => ?_
    refine Zp (Qe (Qb ?_))
    refine Zm (i64 5) <| Qd (v := (i64 4)) (V4 5 1) <| Zx (i64 4) ?_
    refine rN (Zq (Qa (sR ?_)))
    refine Zm (i64 4) <| Qd (Qht 4 0) <| rN <| Za rfl Yx ?_
    refine Qo (Qc (Qa (Qh (Qb ?_))))
    refine Zm (i64 4) <| Zm (i64 4) <| Qd (v := (i64 3)) (V4 4 1) <| Qd (Xr 3 3 Y6 Ze s10) <| Qd (v := (u32 v3)) (Qi Xt rfl rfl m104.h0 (Qu _ _ 0 Ya)) <| Qd (Xr 4 4 Y6 Ze s10) <| Ye m104 (Zi (f := u32) (l' := [v0, v1, v2, v3, v3, v4, v5, v6]) rfl Xb Ze rfl rfl m104.h0 Ya (.inl (aJ _))) fun w105 m105 => ?_
    refine Zp (Qe (Qb ?_))
    refine Zm (i64 4) <| Qd (v := (i64 3)) (V4 4 1) <| Zx (i64 3) ?_
    refine rN (Zq (Qa (sR ?_)))
    refine Zm (i64 3) <| Qd (Qht 3 0) <| rN <| Za rfl Yx ?_
    refine Qo (Qc (Qa (Qh (Qb ?_))))
    refine Zm (i64 3) <| Zm (i64 3) <| Qd (v := (i64 2)) (V4 3 1) <| Qd (Xr 2 2 Y6 Ze s10) <| Qd (v := (u32 v2)) (Qi Xt rfl rfl m105.h0 (Qu _ _ 0 Ya)) <| Qd (Xr 3 3 Y6 Ze s10) <| Ye m105 (Zi (f := u32) (l' := [v0, v1, v2, v2, v3, v4, v5, v6]) rfl Xb Ze rfl rfl m105.h0 Ya (.inl (aJ _))) fun w106 m106 => ?_
    refine Zp (Qe (Qb ?_))
    refine Zm (i64 3) <| Qd (v := (i64 2)) (V4 3 1) <| Zx (i64 2) ?_
    refine rN (Zq (Qa (sR ?_)))
    refine Zm (i64 2) <| Qd (Qht 2 0) <| rN <| Za rfl Yx ?_
    refine Qo (Qc (Qa (Qh (Qb ?_))))
    refine Zm (i64 2) <| Zm (i64 2) <| Qd (v := (i64 1)) (V4 2 1) <| Qd (Xr 1 1 Y6 Ze s10) <| Qd (v := (u32 v1)) (Qi Xt rfl rfl m106.h0 (Qu _ _ 0 Ya)) <| Qd (Xr 2 2 Y6 Ze s10) <| Ye m106 (Zi (f := u32) (l' := [v0, v1, v1, v2, v3, v4, v5, v6]) rfl Xb Ze rfl rfl m106.h0 Ya (.inl (aJ _))) fun w107 m107 => ?_
    refine Zp (Qe (Qb ?_))
    refine Zm (i64 2) <| Qd (v := (i64 1)) (V4 2 1) <| Zx (i64 1) ?_
    refine rN (Zq (Qa (sR ?_)))
    refine Zm (i64 1) <| Qd (Qht 1 0) <| rN <| Za rfl Yx ?_
    refine Qo (Qc (Qa (Qh (Qb ?_))))
    refine Zm (i64 1) <| Zm (i64 1) <| Qd (v := (i64 0)) (V4 1 1) <| Qd (Xr 0 0 Y6 Ze s10) <| Qd (v := (u32 v0)) (Qi Xt rfl rfl m107.h0 (Qu _ _ 0 Ya)) <| Qd (Xr 1 1 Y6 Ze s10) <| Ye m107 (Zi (f := u32) (l' := [v0, v0, v1, v2, v3, v4, v5, v6]) rfl Xb Ze rfl rfl m107.h0 Ya (.inl (aJ _))) fun w108 m108 => ?_
    refine Zp (Qe (Qb ?_))
    refine Zm (i64 1) <| Qd (v := (i64 0)) (V4 1 1) <| Zx (i64 0) ?_
    refine rN (Zq (Qa (sR ?_)))
    refine Zm (i64 0) <| Qd (Qht 0 0) <| rN <| Ja rfl Yx <| X3 ?_
    refine Qj (Qj (Xk ?_))
    refine sR <| Qd (Xr 4 4 Y6 Ze s10) <| Qd (v := (u32 v3)) (Qi Xt rfl rfl m108.h0 (Qu _ _ 0 Ya)) <| X9 s15 <| Qd (Xx rfl rfl) <| Qd (Xr 4 4 Y6 Ze s10) <| Ye m108 (Zi (f := u32) (l' := [v0, v0, v1, v2, v3 + ((((v7 + (((Y9 v4 (6 : Int)) ^^^ (Y9 v4 (11 : Int))) ^^^ (Y9 v4 (25 : Int)))) + ((v4 &&& v5) ^^^ ((~~~v4) &&& v6))) + (F9.getD i 0)) + (wn.getD i 0)), v4, v5, v6]) rfl Xb Ze rfl rfl m108.h0 Ya (.inl (aJ _))) fun w109 m109 => ?_
    refine rN (Qb ?_)
    refine X9 s15 <| X9 s16 <| Qd (Xx rfl rfl) <| Qd (Xr 0 0 Y6 Ze s10) <| Ye m109 (Zi (f := u32) (l' := [((((v7 + (((Y9 v4 (6 : Int)) ^^^ (Y9 v4 (11 : Int))) ^^^ (Y9 v4 (25 : Int)))) + ((v4 &&& v5) ^^^ ((~~~v4) &&& v6))) + (F9.getD i 0)) + (wn.getD i 0)) + ((((Y9 v0 (2 : Int)) ^^^ (Y9 v0 (13 : Int))) ^^^ (Y9 v0 (22 : Int))) + (((v0 &&& v1) ^^^ (v0 &&& v2)) ^^^ (v1 &&& v2))), v0, v1, v2, v3 + ((((v7 + (((Y9 v4 (6 : Int)) ^^^ (Y9 v4 (11 : Int))) ^^^ (Y9 v4 (25 : Int)))) + ((v4 &&& v5) ^^^ ((~~~v4) &&& v6))) + (F9.getD i 0)) + (wn.getD i 0)), v4, v5, v6]) rfl Xb Ze rfl rfl m109.h0 Ya (.inl (aJ _))) fun w110 m110 => ?_
    refine Zp (Qe (Qb ?_))
    refine X9 s11 <| Qd (Zg (b := 1) rfl rfl oM oM) <| Zx (i64 ((i : Int) + 1)) <| rN ?_
    have hwi : wn.getD i 0 = (Dj ((M.drop (64 * m)).take 64)).getD i 0 := by rw [hwn]; exact Qob ((M.drop (64 * m)).take 64) i oM
    have hvn : [((((v7 + (((Y9 v4 (6 : Int)) ^^^ (Y9 v4 (11 : Int))) ^^^ (Y9 v4 (25 : Int)))) + ((v4 &&& v5) ^^^ ((~~~v4) &&& v6))) + (F9.getD i 0)) + (wn.getD i 0)) + ((((Y9 v0 (2 : Int)) ^^^ (Y9 v0 (13 : Int))) ^^^ (Y9 v0 (22 : Int))) + (((v0 &&& v1) ^^^ (v0 &&& v2)) ^^^ (v1 &&& v2))), v0, v1, v2, v3 + ((((v7 + (((Y9 v4 (6 : Int)) ^^^ (Y9 v4 (11 : Int))) ^^^ (Y9 v4 (25 : Int)))) + ((v4 &&& v5) ^^^ ((~~~v4) &&& v6))) + (F9.getD i 0)) + (wn.getD i 0)), v4, v5, v6] = Qam (Dj ((M.drop (64 * m)).take 64)) (i + 1) [h0, h1, h2, h3, h4, h5, h6, h7] := by
     rw [Qoj, ← hv, ← hwi]; exact rndR _ _ _ _ _ _ _ _ _ _
    exact ⟨⟨i + 1, wn, (((((v7 + (((Y9 v4 (6 : Int)) ^^^ (Y9 v4 (11 : Int))) ^^^ (Y9 v4 (25 : Int)))) + ((v4 &&& v5) ^^^ ((~~~v4) &&& v6))) + (F9.getD i 0)) + (wn.getD i 0)) + ((((Y9 v0 (2 : Int)) ^^^ (Y9 v0 (13 : Int))) ^^^ (Y9 v0 (22 : Int))) + (((v0 &&& v1) ^^^ (v0 &&& v2)) ^^^ (v1 &&& v2)))), v0, v1, v2, (v3 + ((((v7 + (((Y9 v4 (6 : Int)) ^^^ (Y9 v4 (11 : Int))) ^^^ (Y9 v4 (25 : Int)))) + ((v4 &&& v5) ^^^ ((~~~v4) &&& v6))) + (F9.getD i 0)) + (wn.getD i 0))), v4, v5, v6, oM, hwn, hvn, s0, s2, s3, s4, s5, s6, s7, s8, s9, s10, rfl, s30, s39, s55, m110⟩, Uj rfl z11 oM oM⟩
   ·
    have hc54p := of_decide_eq_false hc54
    obtain rfl : i = 64 := by omega
    refine X3 ?_
    refine Qj (Qj (Xk ?_))
    refine sR <| Zx (i64 0) ?_
    refine rN (Gh ?_)
    refine Vk 9 ?_
    refine Zq (Qa (sR ?_))
    refine Zm (i64 0) <| Qd (Jc 0 8) <| rN <| Za rfl Yx ?_
    refine Qo (Qc (Qa (Qh ?_)))
    refine Xi (dl 6) 6 Xv <| J7 rfl (i64 0) <| X4 rfl (Xr 0 0 Y6 Ze s7) <| Yj (v := (u32 h0)) rfl (fun _ e' => Qi Xt rfl rfl (m53.ext e').h2 (Qu _ _ 0 Ya)) <| J7 rfl (i64 0) <| X4 rfl (Xr 0 0 Y6 Ze s10) <| Yj (v := (u32 v0)) rfl (fun _ e' => Qi Xt rfl rfl (m53.ext e').h0 (Qu _ _ 0 Ya)) <| Gf m53 fun w111 m111 => Qd (Xx rfl rfl) <| Qd (Xr 0 0 Y6 Ze s7) <| Bj m111 (Zi (f := u32) (l' := [h0 + v0, h1, h2, h3, h4, h5, h6, h7]) rfl Xb Ze rfl rfl m111.h2 Ya (.inl (aJ _))) fun w112 m112 => ?_
    refine Zp (Qe (Qb ?_))
    refine Zm (i64 0) <| Qd (v := (i64 1)) (Yk 0 1) <| Zx (i64 1) ?_
    refine rN (Zq (Qa (sR ?_)))
    refine Zm (i64 1) <| Qd (Jc 1 8) <| rN <| Za rfl Yx ?_
    refine Qo (Qc (Qa (Qh ?_)))
    refine Xi (dl 6) 6 Xv <| J7 rfl (i64 1) <| X4 rfl (Xr 1 1 Y6 Ze s7) <| Yj (v := (u32 h1)) rfl (fun _ e' => Qi Xt rfl rfl (m112.ext e').h2 (Qu _ _ 0 Ya)) <| J7 rfl (i64 1) <| X4 rfl (Xr 1 1 Y6 Ze s10) <| Yj (v := (u32 v1)) rfl (fun _ e' => Qi Xt rfl rfl (m112.ext e').h0 (Qu _ _ 0 Ya)) <| Gf m112 fun w113 m113 => Qd (Xx rfl rfl) <| Qd (Xr 1 1 Y6 Ze s7) <| Bj m113 (Zi (f := u32) (l' := [h0 + v0, h1 + v1, h2, h3, h4, h5, h6, h7]) rfl Xb Ze rfl rfl m113.h2 Ya (.inl (aJ _))) fun w114 m114 => ?_
    refine Zp (Qe (Qb ?_))
    refine Zm (i64 1) <| Qd (v := (i64 2)) (Yk 1 1) <| Zx (i64 2) ?_
    refine rN (Zq (Qa (sR ?_)))
    refine Zm (i64 2) <| Qd (Jc 2 8) <| rN <| Za rfl Yx ?_
    refine Qo (Qc (Qa (Qh ?_)))
    refine Xi (dl 6) 6 Xv <| J7 rfl (i64 2) <| X4 rfl (Xr 2 2 Y6 Ze s7) <| Yj (v := (u32 h2)) rfl (fun _ e' => Qi Xt rfl rfl (m114.ext e').h2 (Qu _ _ 0 Ya)) <| J7 rfl (i64 2) <| X4 rfl (Xr 2 2 Y6 Ze s10) <| Yj (v := (u32 v2)) rfl (fun _ e' => Qi Xt rfl rfl (m114.ext e').h0 (Qu _ _ 0 Ya)) <| Gf m114 fun w115 m115 => Qd (Xx rfl rfl) <| Qd (Xr 2 2 Y6 Ze s7) <| Bj m115 (Zi (f := u32) (l' := [h0 + v0, h1 + v1, h2 + v2, h3, h4, h5, h6, h7]) rfl Xb Ze rfl rfl m115.h2 Ya (.inl (aJ _))) fun w116 m116 => ?_
    refine Zp (Qe (Qb ?_))
    refine Zm (i64 2) <| Qd (v := (i64 3)) (Yk 2 1) <| Zx (i64 3) ?_
    refine rN (Zq (Qa (sR ?_)))
    refine Zm (i64 3) <| Qd (Jc 3 8) <| rN <| Za rfl Yx ?_
    refine Qo (Qc (Qa (Qh ?_)))
    refine Xi (dl 6) 6 Xv <| J7 rfl (i64 3) <| X4 rfl (Xr 3 3 Y6 Ze s7) <| Yj (v := (u32 h3)) rfl (fun _ e' => Qi Xt rfl rfl (m116.ext e').h2 (Qu _ _ 0 Ya)) <| J7 rfl (i64 3) <| X4 rfl (Xr 3 3 Y6 Ze s10) <| Yj (v := (u32 v3)) rfl (fun _ e' => Qi Xt rfl rfl (m116.ext e').h0 (Qu _ _ 0 Ya)) <| Gf m116 fun w117 m117 => Qd (Xx rfl rfl) <| Qd (Xr 3 3 Y6 Ze s7) <| Bj m117 (Zi (f := u32) (l' := [h0 + v0, h1 + v1, h2 + v2, h3 + v3, h4, h5, h6, h7]) rfl Xb Ze rfl rfl m117.h2 Ya (.inl (aJ _))) fun w118 m118 => ?_
    refine Zp (Qe (Qb ?_))
    refine Zm (i64 3) <| Qd (v := (i64 4)) (Yk 3 1) <| Zx (i64 4) ?_
    refine rN (Zq (Qa (sR ?_)))
    refine Zm (i64 4) <| Qd (Jc 4 8) <| rN <| Za rfl Yx ?_
    refine Qo (Qc (Qa (Qh ?_)))
    refine Xi (dl 6) 6 Xv <| J7 rfl (i64 4) <| X4 rfl (Xr 4 4 Y6 Ze s7) <| Yj (v := (u32 h4)) rfl (fun _ e' => Qi Xt rfl rfl (m118.ext e').h2 (Qu _ _ 0 Ya)) <| J7 rfl (i64 4) <| X4 rfl (Xr 4 4 Y6 Ze s10) <| Yj (v := (u32 v4)) rfl (fun _ e' => Qi Xt rfl rfl (m118.ext e').h0 (Qu _ _ 0 Ya)) <| Gf m118 fun w119 m119 => Qd (Xx rfl rfl) <| Qd (Xr 4 4 Y6 Ze s7) <| Bj m119 (Zi (f := u32) (l' := [h0 + v0, h1 + v1, h2 + v2, h3 + v3, h4 + v4, h5, h6, h7]) rfl Xb Ze rfl rfl m119.h2 Ya (.inl (aJ _))) fun w120 m120 => ?_
    refine Zp (Qe (Qb ?_))
    refine Zm (i64 4) <| Qd (v := (i64 5)) (Yk 4 1) <| Zx (i64 5) ?_
    refine rN (Zq (Qa (sR ?_)))
    refine Zm (i64 5) <| Qd (Jc 5 8) <| rN <| Za rfl Yx ?_
    refine Qo (Qc (Qa (Qh ?_)))
    refine Xi (dl 6) 6 Xv <| J7 rfl (i64 5) <| X4 rfl (Xr 5 5 Y6 Ze s7) <| Yj (v := (u32 h5)) rfl (fun _ e' => Qi Xt rfl rfl (m120.ext e').h2 (Qu _ _ 0 Ya)) <| J7 rfl (i64 5) <| X4 rfl (Xr 5 5 Y6 Ze s10) <| Yj (v := (u32 v5)) rfl (fun _ e' => Qi Xt rfl rfl (m120.ext e').h0 (Qu _ _ 0 Ya)) <| Gf m120 fun w121 m121 => Qd (Xx rfl rfl) <| Qd (Xr 5 5 Y6 Ze s7) <| Bj m121 (Zi (f := u32) (l' := [h0 + v0, h1 + v1, h2 + v2, h3 + v3, h4 + v4, h5 + v5, h6, h7]) rfl Xb Ze rfl rfl m121.h2 Ya (.inl (aJ _))) fun w122 m122 => ?_
    refine Zp (Qe (Qb ?_))
    refine Zm (i64 5) <| Qd (v := (i64 6)) (Yk 5 1) <| Zx (i64 6) <| rN ?_
    refine CR.abs (fun g => g 0 = vb ∧ g 2 = (ptr b2 0) ∧ g 3 = sv36 ∧ g 4 = (u64 ((aB 64 (l.length : Int)) * 8#64)) ∧ g 5 = (i64 (-1)) ∧ g 6 = (ptr b6 0) ∧ g 7 = (ptr b7 0) ∧ g 8 = (i64 ((64 * m : Nat) : Int)) ∧ g 9 = (ptr b9 0) ∧ g 10 = (ptr b10 0) ∧ g 11 = (i64 (64 : Int)) ∧ g 18 = (i64 6) ∧ g 30 = (bl ((((l ++ 128#8 :: aA ((119 - l.length % 64) % 64) 0#8).length : Int) % 64) != 56)) ∧ g 39 = (bl false) ∧ g 55 = (bl (decide (((64 * m : Nat) : Int) < (M.length : Int)))) ∧ g 61 = (bl (decide ((64 : Int) < 64))) ∧ g 220 = (bl true) ∧ True) ⟨s0, s2, s3, s4, s5, s6, s7, s8, s9, s10, s11, rfl, s30, s39, s55, rfl, rfl, trivial⟩ ?_
    rintro fr123 ⟨s0, s2, s3, s4, s5, s6, s7, s8, s9, s10, s11, s18, s30, s39, s55, s61, s220, _⟩
    refine Zq (Qa (sR ?_))
    refine X9 s18 <| Qd (Jc 6 8) <| rN <| Za rfl Yx ?_
    refine Qo (Qc (Qa (Qh ?_)))
    refine Xi (dl 6) 6 Xv <| Uh rfl s18 <| X4 rfl (Xr 6 6 Y6 Ze s7) <| Yj (v := (u32 h6)) rfl (fun _ e' => Qi Xt rfl rfl (m122.ext e').h2 (Qu _ _ 0 Ya)) <| Uh rfl s18 <| X4 rfl (Xr 6 6 Y6 Ze s10) <| Yj (v := (u32 v6)) rfl (fun _ e' => Qi Xt rfl rfl (m122.ext e').h0 (Qu _ _ 0 Ya)) <| Gf m122 fun w124 m124 => Qd (Xx rfl rfl) <| Qd (Xr 6 6 Y6 Ze s7) <| Bj m124 (Zi (f := u32) (l' := [h0 + v0, h1 + v1, h2 + v2, h3 + v3, h4 + v4, h5 + v5, h6 + v6, h7]) rfl Xb Ze rfl rfl m124.h2 Ya (.inl (aJ _))) fun w125 m125 => ?_
    refine Zp (Qe (Qb ?_))
    refine X9 s18 <| Qd (v := (i64 7)) (Yk 6 1) <| Zx (i64 7) ?_
    refine rN (Zq (Qa (sR ?_)))
    refine Zm (i64 7) <| Qd (Jc 7 8) <| rN <| Za rfl Yx ?_
    refine Qo (Qc (Qa (Qh ?_)))
    refine Xi (dl 6) 6 Xv <| J7 rfl (i64 7) <| X4 rfl (Xr 7 7 Y6 Ze s7) <| Yj (v := (u32 h7)) rfl (fun _ e' => Qi Xt rfl rfl (m125.ext e').h2 (Qu _ _ 0 Ya)) <| J7 rfl (i64 7) <| X4 rfl (Xr 7 7 Y6 Ze s10) <| Yj (v := (u32 v7)) rfl (fun _ e' => Qi Xt rfl rfl (m125.ext e').h0 (Qu _ _ 0 Ya)) <| Gf m125 fun w126 m126 => Qd (Xx rfl rfl) <| Qd (Xr 7 7 Y6 Ze s7) <| Bj m126 (Zi (f := u32) (l' := [h0 + v0, h1 + v1, h2 + v2, h3 + v3, h4 + v4, h5 + v5, h6 + v6, h7 + v7]) rfl Xb Ze rfl rfl m126.h2 Ya (.inl (aJ _))) fun w127 m127 => ?_
    refine Zp (Qe (Qb ?_))
    refine Zm (i64 7) <| Qd (v := (i64 8)) (Yk 7 1) <| Zx (i64 8) ?_
    refine rN (Zq (Qa (sR ?_)))
    refine Zm (i64 8) <| Qd (Jc 8 8) <| rN <| Ja rfl Yx <| X3 ?_
    refine Qj (Qj (Xk ?_))
    refine Qe (Qb ?_)
    refine X9 s8 <| Qd (Zg (b := 64) rfl rfl oM oM) <| Zx (i64 (((64 * m : Nat) : Int) + 64)) <| rN ?_
    have hhn : [h0 + v0, h1 + v1, h2 + v2, h3 + v3, h4 + v4, h5 + v5, h6 + v6, h7 + v7] = hAt Qb9 M (m + 1) := by rw [hAt_succ, ← hh, Qhu, ← hv]; rfl
    have m128 := aF [_] _ m127
    have m129 := aF [_] _ m128
    exact ⟨⟨m + 1, (h0 + v0), (h1 + v1), (h2 + v2), (h3 + v3), (h4 + v4), (h5 + v5), (h6 + v6), (h7 + v7), oM, hhn, s0, s2, s3, s4, s5, s6, s7, (by show i64 _ = i64 _; congr 1), s30, s39, m129⟩, Uj (by show i64 _ = i64 _; congr 1) z8 (a' := ((64 * (m + 1) : Nat) : Int)) oM oM⟩
  ·
   have hc47p := of_decide_eq_false hc47
   obtain rfl : m = M.length / 64 := by omega
   refine X3 ?_
   refine Qj (Qj (Xk ?_))
   refine sR <| Qd (Ve (ps := []) (c := (cl u8 (aA 32 0))) Zh Xn Yr Ya rfl) <| Y5 (Q7 m46 Zh) fun w130 b19 m130 => Ye m130 (Qg (f := u8) (l := aA 32 0) Qr Zh rfl rfl sD m130.h0 sZ rfl) fun w131 m131 => ?_
   refine rN (Qa (sR ?_))
   refine Zx (i64 0) ?_
   refine rN (Qh ?_)
   refine Y1 (fun g wv => ∃ (e : Nat), (e ≤ 32) ∧ g 0 = vb ∧ g 2 = (ptr b2 0) ∧ g 3 = sv36 ∧ g 4 = (u64 ((aB 64 (l.length : Int)) * 8#64)) ∧ g 5 = (i64 (-1)) ∧ g 6 = (ptr b6 0) ∧ g 7 = (ptr b7 0) ∧ g 8 = (i64 ((64 * (M.length / 64) : Nat) : Int)) ∧ g 19 = (ptr b19 0) ∧ g 20 = (i64 (e : Int)) ∧ g 30 = (bl ((((l ++ 128#8 :: aA ((119 - l.length % 64) % 64) 0#8).length : Int) % 64) != 56)) ∧ g 39 = (bl false) ∧ g 55 = (bl (decide (((64 * (M.length / 64) : Nat) : Int) < (M.length : Int)))) ∧ Mem wv (Qs w0) ([(b19, .cells (cl u8 (Yv (fun q => ([h0, h1, h2, h3, h4, h5, h6, h7].getD (q / 4) 0 >>> (24 - 8 * (q % 4))).setWidth 8) 0 32 e)) 23 (0, 0)), (b7, .cells (cl u32 ([h0, h1, h2, h3, h4, h5, h6, h7])) 152 (0, 0)), (b6, .cells (cl u32 F9) 160 (0, 0))] ++ (Hs36 ++ ([(b2, .cells (cl u8 (aA 32 0)) 23 (0, 0))])))) (fun g wv => (32 - RowKit.intOf (g 20)).toNat) ?_ ?_
   ·exact ⟨0, oM, s0, s2, s3, s4, s5, s6, s7, s8, rfl, rfl, s30, s39, rfl, (by rw [Ei]; exact m131)⟩
   rintro fr132 w133 ⟨e, he, s0, s2, s3, s4, s5, s6, s7, s8, s19, s20, s30, s39, s55, m133⟩
   have z20 := s20
   have hfl : (Yv (fun q => ([h0, h1, h2, h3, h4, h5, h6, h7].getD (q / 4) 0 >>> (24 - 8 * (q % 4))).setWidth 8) (0 : BitVec 8) 32 e).length = 32 := J8 _ _ _ _ he
   refine Qa (sR ?_)
   refine X9 s20 <| Qd (Xd (b := 32) rfl rfl) <| rN ?_
   refine Zz rfl (fun hc134 => ?_) (fun hc134 => ?_)
   ·
    have hc134p := of_decide_eq_true hc134
    refine Qo (Qc (Qa (Qh (Qb ?_))))
    refine X9 s20 <| X9 s20 <| Qd (Jv.cast (congrArg i64 (show (e : Int) / 4 = ((e / 4 : Nat) : Int) by omega)) (Um (b := 4) rfl rfl oM oM oM)) <| Qd (Zj (r := (e / 4)) oM Y6 Ze s7 rfl oM sD) <| Qd (v := (u32 (([h0, h1, h2, h3, h4, h5, h6, h7]).getD (e / 4) 0))) (Qi Xt rfl rfl m133.h1 (Qu _ _ 0 sD)) <| X9 s20 <| Qd (Wp (b := 4) rfl rfl oM oM oM) <| Qd (Ku (a := 8) rfl rfl oM oM) <| Qd (Jv.cast (congrArg i64 (show 24 - (8 * ((e : Int) % 4)) = ((24 - 8 * (e % 4) : Nat) : Int) by omega)) (Yg (a := 24) rfl rfl oM oM)) <| Qd (Ul rfl rfl oM) <| Qd (Fj ⟨_, Xt⟩ V3 rfl) <| Qd (Zj (r := e) oM Xn Yr s19 rfl oM sD) ?_
    refine Ye m133 (Xw (f := u8) (a := ((([h0, h1, h2, h3, h4, h5, h6, h7]).getD (e / 4) 0) >>> ((24 - 8 * (e % 4) : Nat) : Int).toNat).setWidth 8) Qr Yr rfl rfl m133.h0 sD (.inl (aJ _))) fun w135 m135 => ?_
    refine Zp (Qe (Qb ?_))
    refine X9 s20 <| Qd (Zg (b := 1) rfl rfl oM oM) <| Zx (i64 ((e : Int) + 1)) <| rN ?_
    exact ⟨⟨e + 1, oM, s0, s2, s3, s4, s5, s6, s7, s8, s19, rfl, s30, s39, s55, (by rw [← Ep (fun q => ([h0, h1, h2, h3, h4, h5, h6, h7].getD (q / 4) 0 >>> (24 - 8 * (q % 4))).setWidth 8) (0 : BitVec 8) (n := 32) (k := e) oM _ rfl]; exact m135)⟩, Uj rfl z20 oM oM⟩
   ·
    have hc134p := of_decide_eq_false hc134
    obtain rfl : e = 32 := by omega
    have hfl := J8 (fun q => ([h0, h1, h2, h3, h4, h5, h6, h7].getD (q / 4) 0 >>> (24 - 8 * (q % 4))).setWidth 8) (0 : BitVec 8) 32 32 oM
    refine X3 ?_
    refine Qj (Qj (Xk ?_))
    refine sR <| Qd (Qn Xn rfl Zh s19 m133.h0 sZ) <| Vd (Qg (f := u8) (l := Yv (fun q => ([h0, h1, h2, h3, h4, h5, h6, h7].getD (q / 4) 0 >>> (24 - 8 * (q % 4))).setWidth 8) 0 32 32) Qr Zh s2 rfl sD ((aN [_, _, _] Hs36 [_] _ m133)).h0 sZ rfl) ?_
    rintro _ w136 uq136
    have m136 : Mem _ _ ([_, _, _, _] ++ (Hs36 ++ ([]))) := Mem.upd0 (aN [_, _, _] Hs36 [_] _ m133) uq136
    refine rN (Z8 ?_)
    refine Qq [(agg u8 (Yv (fun q => ([h0, h1, h2, h3, h4, h5, h6, h7].getD (q / 4) 0 >>> (24 - 8 * (q % 4))).setWidth 8) 0 32 32))] ⟨⟨_, s2, Xm Xn rfl Zh m136.h0 sZ⟩, trivial⟩ ?_
    exact ⟨congrArg (agg u8) ((show Yv (fun q => ([h0, h1, h2, h3, h4, h5, h6, h7].getD (q / 4) 0 >>> (24 - 8 * (q % 4))).setWidth 8) 0 32 32 = Qcp [h0, h1, h2, h3, h4, h5, h6, h7] from rfl).trans (by rw [hh, hMM, pad_same]; exact (sum_flat l).symm)), m136.toExt⟩
end Go.Proofs.YtkmiemlpfkfiiaaDoor
