/- Contracts: the document's hash. Conditions: none beyond those that each theorem states. -/
import Derived.Test.YtkmiemlpfkfiiaaDoorHa5
namespace Go.Proofs.YtkmiemlpfkfiiaaDoor
set_option linter.unusedVariables false
set_option linter.unusedSimpArgs false
def Yi (x : BitVec 32) (n : Int) : BitVec 32 := x >>> n.toNat ||| x <<< (32 - n).toNat
theorem shl8_add (x : BitVec 32) (y : BitVec 8) : x * 256#32 + y.setWidth 32 = x <<< 8 ||| y.setWidth 32 := by
 have e : x <<< 8 = x * 256#32 := by rw [BitVec.shiftLeft_eq_mul_twoPow]; rfl
 rw [← e]
 refine BitVec.add_eq_or_of_and_eq_zero _ _ ?_
 apply BitVec.eq_of_getLsbD_eq
 intro i hi
 simp only [BitVec.getLsbD_and, BitVec.getLsbD_shiftLeft, BitVec.getLsbD_setWidth, BitVec.getLsbD_zero]
 by_cases h : i < 8
 ·simp [h]
 rw [BitVec.getLsbD_of_ge y i oM]; simp
theorem rr (x : BitVec 32) : Yi x 2 = Zb x (-2) ∧ Yi x 6 = Zb x (-6) ∧ Yi x 7 = Zb x (-7) ∧ Yi x 11 = Zb x (-11) ∧ Yi x 13 = Zb x (-13) ∧ Yi x 17 = Zb x (-17) ∧ Yi x 18 = Zb x (-18) ∧ Yi x 19 = Zb x (-19) ∧ Yi x 22 = Zb x (-22) ∧ Yi x 25 = Zb x (-25) := by
 refine ⟨?_, ?_, ?_, ?_, ?_, ?_, ?_, ?_, ?_, ?_⟩ <;> (unfold Yi Zb; rw [BitVec.or_comm]; rfl)
theorem Qik (l : List (BitVec 8)) (k : Nat) (h : k < 16) (a b c d : BitVec 8) (ha : a = l.getD (4 * k) 0) (hb : b = l.getD (4 * k + 1) 0) (hc : c = l.getD (4 * k + 2) 0) (hd : d = l.getD (4 * k + 3) 0) (w : List (BitVec 32)) (hw : w = Jv l k) :
  (((w.set k (w.getD k 0 * 256#32 + a.setWidth 32)).set k ((w.set k (w.getD k 0 * 256#32 + a.setWidth 32)).getD k 0 * 256#32 + b.setWidth 32)).set k
   (((w.set k (w.getD k 0 * 256#32 + a.setWidth 32)).set k ((w.set k (w.getD k 0 * 256#32 + a.setWidth 32)).getD k 0 * 256#32 + b.setWidth 32)).getD k 0 * 256#32 + c.setWidth 32)).set k
   ((((w.set k (w.getD k 0 * 256#32 + a.setWidth 32)).set k ((w.set k (w.getD k 0 * 256#32 + a.setWidth 32)).getD k 0 * 256#32 + b.setWidth 32)).set k
   (((w.set k (w.getD k 0 * 256#32 + a.setWidth 32)).set k ((w.set k (w.getD k 0 * 256#32 + a.setWidth 32)).getD k 0 * 256#32 + b.setWidth 32)).getD k 0 * 256#32 + c.setWidth 32)).getD k 0 * 256#32 + d.setWidth 32) = Jv l (k + 1) := by
 simp only [shl8_add]
 exact Qeg l k h a b c d ha hb hc hd w hw
theorem Qjo (l : List (BitVec 8)) (k : Nat) (h : ¬ k < 16) (h2 : k < 64) (w : List (BitVec 32)) (hw : w = Jv l k) :
  w.set k (((((Yi (w.getD (k - 2) 0) 17 ^^^ Yi (w.getD (k - 2) 0) 19) ^^^ (w.getD (k - 2) 0) >>> 10) + w.getD (k - 7) 0) + ((Yi (w.getD (k - 15) 0) 7 ^^^ Yi (w.getD (k - 15) 0) 18) ^^^ (w.getD (k - 15) 0) >>> 3)) + w.getD (k - 16) 0) = Jv l (k + 1) := by
 subst hw
 simp only [Jv]
 congr 1
 unfold Qbc
 rw [if_neg h]
 simp only [rr]
 ac_rfl
theorem rndR (w t a z c e f g h k : BitVec 32) :
  [((((k + ((Yi f 6 ^^^ Yi f 11) ^^^ Yi f 25)) + ((f &&& g) ^^^ (~~~f &&& h))) + t) + w) + (((Yi a 2 ^^^ Yi a 13) ^^^ Yi a 22) + (((a &&& z) ^^^ (a &&& c)) ^^^ (z &&& c))), a, z, c,
   e + ((((k + ((Yi f 6 ^^^ Yi f 11) ^^^ Yi f 25)) + ((f &&& g) ^^^ (~~~f &&& h))) + t) + w), f, g, h] = rnd w t [a, z, c, e, f, g, h, k] := by
 simp only [rnd, rr]
 have e1 : ((((k + ((Zb f (-6) ^^^ Zb f (-11)) ^^^ Zb f (-25))) + ((f &&& g) ^^^ (~~~f &&& h))) + t) + w) = ((((k + w) + t) + ((f &&& g) ^^^ (~~~f &&& h))) + ((Zb f (-6) ^^^ Zb f (-11)) ^^^ Zb f (-25))) := by ac_rfl
 have e2 : (((Zb a (-2) ^^^ Zb a (-13)) ^^^ Zb a (-22)) + (((a &&& z) ^^^ (a &&& c)) ^^^ (z &&& c))) = ((((a &&& z) ^^^ (a &&& c)) ^^^ (z &&& c)) + ((Zb a (-2) ^^^ Zb a (-13)) ^^^ Zb a (-22))) := by ac_rfl
 rw [e1, e2]
theorem sum_flat (l : List (BitVec 8)) : Gn l = Qaa (hAt Tf (l ++ padP (0#64 + BitVec.ofInt 64 (l.length : Int)) (l.length % 64)) ((l ++ padP (0#64 + BitVec.ofInt 64 (l.length : Int)) (l.length % 64)).length / 64)) := by
 unfold Gn Uu
 have e : (l.drop (64 * (l.length / 64))).length = l.length % 64 := by simp; omega
 rw [e]
 generalize padP (0#64 + BitVec.ofInt 64 (l.length : Int)) (l.length % 64) = p
 congr 1
 have e0 : l.drop (64 * (l.length / 64)) ++ p = (l ++ p).drop (64 * (l.length / 64)) := by rw [List.drop_append_of_le_length oM]
 have e2 : l.length / 64 + (l.drop (64 * (l.length / 64)) ++ p).length / 64 = (l ++ p).length / 64 := by simp; omega
 rw [← e2, ← Qj8 Tf l p (l.length / 64) oM, e0, Qmv]
def padR (n : BitVec 64) (z : Nat) : List (BitVec 8) := 128#8 :: (List.replicate z 0#8 ++ [(n >>> 56).setWidth 8, (n >>> 48).setWidth 8, (n >>> 40).setWidth 8, (n >>> 32).setWidth 8, (n >>> 24).setWidth 8, (n >>> 16).setWidth 8, (n >>> 8).setWidth 8, (n >>> 0).setWidth 8])
theorem pad_same (l : List (BitVec 8)) : padR (BitVec.ofInt 64 (l.length : Int) * 8#64) ((119 - l.length % 64) % 64) = padP (0#64 + BitVec.ofInt 64 (l.length : Int)) (l.length % 64) := by
 unfold padR padP lenB
 have e : ∀ x : BitVec 64, x * 8#64 = (0#64 + x) <<< 3 := fun x => by rw [BitVec.zero_add, BitVec.shiftLeft_eq_mul_twoPow]; rfl
 rw [e]
theorem Qdd (M : List (BitVec 8)) (m i : Nat) (h : i < 64) (hm : 64 * m + 64 ≤ M.length) : M.getD (64 * m + i) 0 = ((M.drop (64 * m)).take 64).getD i 0 := by
 simp only [List.getD_eq_getElem?_getD, List.getElem?_take, if_pos h, List.getElem?_drop]
theorem hAt_zero (h : List (BitVec 32)) (l : List (BitVec 8)) : hAt h l 0 = h := rfl
theorem hAt_succ (h : List (BitVec 32)) (l : List (BitVec 8)) (m : Nat) : hAt h l (m + 1) = Qed (hAt h l m) ((l.drop (64 * m)).take 64) := rfl
theorem Qil (l : List (BitVec 8)) : Jv l 0 = List.replicate 64 0 := rfl
theorem Qjs (wl s : List (BitVec 32)) : Nh wl 0 s = s := rfl
theorem Qjt (wl s : List (BitVec 32)) (k : Nat) : Nh wl (k + 1) s = rnd (wl.getD k 0) (Ud.getD k 0) (Nh wl k s) := rfl
theorem Qjn (l : List (BitVec 8)) (i : Nat) : ∀ k, i < k → (Jv l k).getD i 0 = (Jv l (i + 1)).getD i 0 := by
 intro k
 induction k with
 | zero => intro h; omega
 | succ k ih =>
  intro h
  rcases Nat.lt_or_ge i k with h1 | h1
  ·rw [← ih h1]
   simp only [Jv, List.getD_eq_getElem?_getD, List.getElem?_set]
   rw [if_neg oM]
  have : i = k := by omega
  subst this; rfl
theorem Qjm (l : List (BitVec 8)) (i : Nat) (h : i < 64) : (Jv l (i + 1)).getD i 0 = (Uz l).getD i 0 := (Qjn l i 64 h).symm
attribute [local irreducible] Gn hAt Qed Uz Nh Jv rnd
theorem Dw (x : BitVec 32) (k : Int) (w0 : World)  (h0 : 0 ≤ k) (h1 : k ≤ 32) : Xz Tryd.prog 106 #[(u32 x), (i64 k)] w0 (fun r w1 => r = (u32 (Yi x k)) ∧ Ext w0 w1) := by
 refine Zd (args := [(u32 x), (i64 k)]) Tryd.func106 rfl Tryd.ntmps106 Tryd.results106 rfl ?_
 have m0 : Mem w0 (Qy w0) [] := Mem.of_world w0
 refine sR <| Qa rfl (Qc (v := (u32 0#32)) rfl) ?_
 refine rN (Qg ?_)
 refine Xq (dl 7) 7 (by kernel_rfl) <| Qj rfl rfl (fun _ _hx => Qb (v := (u32 x)) rfl) <| Qj rfl rfl (fun _ _hx => Qb (v := (i64 k)) rfl) <| Qj rfl rfl (fun _ _hx => V8 rfl rfl oM) <| Qj rfl rfl (fun _ _hx => Qb (v := (u32 x)) rfl) <| Qj rfl rfl (fun _ _hx => Qb (v := (i64 k)) rfl) <| Qj rfl rfl (fun _ _hx => Zp (a := 32) rfl rfl oM oM) <| Qj rfl rfl (fun _ _hx => G8 rfl rfl oM) ?_
 refine Xd (fun w1 e1 => ?_)
 have m1 := m0.ext e1
 refine Qa rfl (U5 rfl rfl) <| Qa rfl (Qc (v := (u32 ((x >>> k.toNat) ||| (x <<< (32 - k).toNat)))) rfl) ?_
 refine rN (Xt ?_)
 refine Ze [(u32 ((x >>> k.toNat) ||| (x <<< (32 - k).toNat)))] ⟨rfl, trivial⟩ ?_
 exact ⟨rfl, m1.toExt⟩
theorem c_table  (w0 : World)   : Xz Tryd.prog 105 #[] w0 (fun r w1 => r = (agg u32 Ud) ∧ Ext w0 w1) := by
 refine Zd (args := []) Tryd.func105 rfl Tryd.ntmps105 Tryd.results105 rfl ?_
 have m0 : Mem w0 (Qy w0) [] := Mem.of_world w0
 refine sR <| Za rfl (Zg m0 Rt) ?_
 rintro _ w1 ⟨b0, rfl, e1, m1⟩
 refine rN (sR ?_)
 refine Qa rfl (Vf u32 [1116352408#32, 1899447441#32, 3049323471#32, 3921009573#32, 961987163#32, 1508970993#32, 2453635748#32, 2870763221#32, 3624381080#32, 310598401#32, 607225278#32, 1426881987#32, 1925078388#32, 2162078206#32, 2614888103#32, 3248222580#32, 3835390401#32, 4022224774#32, 264347078#32, 604807628#32, 770255983#32, 1249150122#32, 1555081692#32, 1996064986#32, 2554220882#32, 2821834349#32, 2952996808#32, 3210313671#32, 3336571891#32, 3584528711#32, 113926993#32, 338241895#32, 666307205#32, 773529912#32, 1294757372#32, 1396182291#32, 1695183700#32, 1986661051#32, 2177026350#32, 2456956037#32, 2730485921#32, 2820302411#32, 3259730800#32, 3345764771#32, 3516065817#32, 3600352804#32, 4094571909#32, 275423344#32, 430227734#32, 506948616#32, 659060556#32, 883997877#32, 958139571#32, 1322822218#32, 1537002063#32, 1747873779#32, 1955562222#32, 2024104815#32, 2227730452#32, 2361852424#32, 2428436474#32, 2756734187#32, 3204031479#32, 3329325298#32] Z5 Rt Vj Zh rfl rfl) <| Zw (Qm (f := u32) (l := [1116352408#32, 1899447441#32, 3049323471#32, 3921009573#32, 961987163#32, 1508970993#32, 2453635748#32, 2870763221#32, 3624381080#32, 310598401#32, 607225278#32, 1426881987#32, 1925078388#32, 2162078206#32, 2614888103#32, 3248222580#32, 3835390401#32, 4022224774#32, 264347078#32, 604807628#32, 770255983#32, 1249150122#32, 1555081692#32, 1996064986#32, 2554220882#32, 2821834349#32, 2952996808#32, 3210313671#32, 3336571891#32, 3584528711#32, 113926993#32, 338241895#32, 666307205#32, 773529912#32, 1294757372#32, 1396182291#32, 1695183700#32, 1986661051#32, 2177026350#32, 2456956037#32, 2730485921#32, 2820302411#32, 3259730800#32, 3345764771#32, 3516065817#32, 3600352804#32, 4094571909#32, 275423344#32, 430227734#32, 506948616#32, 659060556#32, 883997877#32, 958139571#32, 1322822218#32, 1537002063#32, 1747873779#32, 1955562222#32, 2024104815#32, 2227730452#32, 2361852424#32, 2428436474#32, 2756734187#32, 3204031479#32, 3329325298#32]) Z5 Rt rfl rfl sD m1.h0 sZ rfl) ?_
 rintro _ w2 uq2
 have m2 := m1.upd0 uq2
 refine rN (Xt ?_)
 refine Ze [(agg u32 ([1116352408#32, 1899447441#32, 3049323471#32, 3921009573#32, 961987163#32, 1508970993#32, 2453635748#32, 2870763221#32, 3624381080#32, 310598401#32, 607225278#32, 1426881987#32, 1925078388#32, 2162078206#32, 2614888103#32, 3248222580#32, 3835390401#32, 4022224774#32, 264347078#32, 604807628#32, 770255983#32, 1249150122#32, 1555081692#32, 1996064986#32, 2554220882#32, 2821834349#32, 2952996808#32, 3210313671#32, 3336571891#32, 3584528711#32, 113926993#32, 338241895#32, 666307205#32, 773529912#32, 1294757372#32, 1396182291#32, 1695183700#32, 1986661051#32, 2177026350#32, 2456956037#32, 2730485921#32, 2820302411#32, 3259730800#32, 3345764771#32, 3516065817#32, 3600352804#32, 4094571909#32, 275423344#32, 430227734#32, 506948616#32, 659060556#32, 883997877#32, 958139571#32, 1322822218#32, 1537002063#32, 1747873779#32, 1955562222#32, 2024104815#32, 2227730452#32, 2361852424#32, 2428436474#32, 2756734187#32, 3204031479#32, 3329325298#32]))] ⟨⟨_, rfl, Xo Vj rfl Rt m2.h0 sZ⟩, trivial⟩ ?_
 exact ⟨rfl, m2.toExt⟩
set_option maxHeartbeats 4000000 in
theorem Ql8 (vb : Value) (l : List (BitVec 8)) (w0 : World)  (hr : Rd (Yq w0) u8 vb l) (hl : l.length ≤ 35184372088832) : Xz Tryd.prog 91 #[vb] w0 (fun r w1 => r = (agg u8 (Gn l)) ∧ Ext w0 w1) := by
 refine Zd (args := [vb]) Tryd.func91 rfl Tryd.ntmps91 Tryd.results91 rfl ?_
 have m0 : Mem w0 (Qy w0) [] := Mem.of_world w0
 refine sR <| Za rfl (Zg m0 Z9) ?_
 rintro _ w1 ⟨b2, rfl, _ew1, m1⟩
 refine rN (sR ?_)
 refine Za rfl (Ql u8 [] Qu m1 Zi X6 rfl (by simp [Jo]) rfl) ?_
 rintro _ w2 ⟨b21, rfl, _ew2, m2⟩
 refine rM rfl (v := vb) rfl <| Za rfl (Zk (f := u8) (Hs := [(b21, .cells (cl u8 ([])) 5 (0, 0))]) (H := [_]) m2 (Zv.of u8 5 b21 ([])) rfl rfl (Rd.ofRest hr m2) Zi Zi X6 rfl Qu sD sD) ?_
 rintro sv3 w3 ⟨Hs3, m3, g3⟩
 replace g3 : Zv u8 5 sv3 l Hs3 := g3
 refine rA rfl (v := sv3) rfl ?_
 refine rN (sR ?_)
 refine rM rfl (v := sv3) rfl <| Za rfl (Ql u8 [128#8] Qu m3 Zi X6 rfl rfl rfl) ?_
 rintro _ w4 ⟨b25, rfl, _ew4, m4⟩
 refine Za rfl (Zk (f := u8) (Hs := Hs3) (H := [_, _]) (Mem.pick [_] Hs3 _ m4) g3 rfl rfl (Rd.mkA m4.h0) Zi Zi X6 rfl Qu sD sD) ?_
 rintro sv5 w5 ⟨Hs5, m5, g5⟩
 replace g5 : Zv u8 5 sv5 (l ++ ([128#8])) Hs5 := g5
 refine rA rfl (v := sv5) rfl ?_
 refine rN (Qg (Qo ?_))
 refine Yo (fun g wv => ∃ (k : Nat) (pl : List (BitVec 8)) (sp : Value) (Hp : List (Nat × Obj)), (k ≤ ((119 - l.length % 64) % 64)) ∧ (pl = l ++ 128#8 :: List.replicate k 0#8) ∧ (Zv u8 5 sp pl Hp) ∧ g 0 = vb ∧ g 2 = (ptr b2 0) ∧ g 3 = sp ∧ Mem wv (Qy w0) (Hp ++ ([(b25, .cells (cl u8 ([128#8])) 5 (0, 0)), (b2, .cells (cl u8 (List.replicate 32 0)) 23 (0, 0))]))) (fun g wv => l.length + ((119 - l.length % 64) % 64) + 2 - sllen (g 3)) ?_ ?_
 ·exact ⟨0, l ++ ([128#8]), sv5, Hs5, oM, (by simp), g5, rfl, rfl, rfl, m5⟩
 rintro fr6 w7 ⟨k, pl, sp, Hp, hk, hpl, gp, s0, s2, s3, m7⟩
 have z3 := s3
 have hpn : pl.length = l.length + 1 + k := by rw [hpl]; simp; omega
 refine Qg (sR ?_)
 refine rM rfl s3 <| Qa rfl (Ye (gp.rd m7) Zi rfl) <| Qa rfl (Jy (b := 64) rfl rfl oM oM oM) <| Qa rfl (Gu (b := 56) rfl rfl) <| rN ?_
 refine Xv rfl (fun hc8 => ?_) (fun hc8 => ?_)
 ·
  have hc8p := bne_iff_ne.1 hc8
  refine Q7 (Qh (Vq (Qe ?_)))
  refine rM rfl s3 <| Za rfl (Ql u8 [0#8] Qu m7 Zi X6 rfl rfl rfl) ?_
  rintro _ w9 ⟨b32, rfl, _ew9, m9⟩
  refine Za rfl (Zk (f := u8) (Hs := Hp) (H := [_, _, _]) (Mem.pick [_] Hp _ m9) gp rfl rfl (Rd.mkA m9.h0) Zi Zi X6 rfl Qu sD sD) ?_
  rintro sv10 w10 ⟨Hs10, m10, g10⟩
  replace g10 : Zv u8 5 sv10 (pl ++ ([0#8])) Hs10 := g10
  refine rA rfl (v := sv10) rfl ?_
  refine Zr (Qi (Qh ?_))
  have m11 := Mem.drop [_] _ (Mem.pick Hs10 [_] _ m10)
  exact ⟨⟨k + 1, pl ++ ([0#8]), sv10, Hs10, oM, (by rw [hpl, List.replicate_succ']; simp), g10, s0, s2, rfl, m11⟩, (by show l.length + ((119 - l.length % 64) % 64) + 2 - sllen sv10 < l.length + ((119 - l.length % 64) % 64) + 2 - sllen _; rw [z3, gp.sllen, Zv.sllen g10]; simp [hpn]; omega)⟩
 ·
  have hc8p := Kt hc8
  have hpn : pl.length = l.length + 1 + k := by rw [hpl]; simp; omega
  obtain rfl : k = ((119 - l.length % 64) % 64) := by omega
  subst hpl
  refine X0 ?_
  refine Qr (Qr (Xf ?_))
  refine sR <| rM rfl s0 <| Qa rfl (Ye (Rd.ofRest hr m7) Zi rfl) <| Qa rfl (Yv ⟨_, Fj⟩ X4 rfl) <| Qa rfl (Un (b := 8#64) rfl rfl) <| Qa rfl (Qc (v := (u64 ((BitVec.ofInt 64 (l.length : Int)) * 8#64))) rfl) ?_
  refine rN (Qg (sR ?_))
  refine Qa rfl (Qc (v := (i64 7)) rfl) ?_
  refine rN (Qo ?_)
  refine Kw 9 ?_
  refine Zq (Qg (sR ?_))
  refine Qa rfl (Qb (v := (i64 7)) rfl) <| Qa rfl (X5 (a := 7) (b := 0) rfl rfl) <| rN ?_
  have m12 := Mem.drop [_] _ (Mem.pick Hp [_] _ m7)
  refine Zc rfl (by decide) ?_
  refine Q7 (Qh (Qg (Qo (Qe ?_))))
  refine rM rfl s3 <| Qa rfl (Qb (v := (u64 ((BitVec.ofInt 64 (l.length : Int)) * 8#64))) rfl) <| Qa rfl (Qb (v := (i64 7)) rfl) <| Qa (v := (i64 56)) rfl (Z7 (a := 8) (b := 7) rfl rfl oM oM) <| Qa rfl (Xy (b := 56) rfl rfl oM) <| Qa rfl (Xw ⟨_, X4⟩ Vm rfl) <| Za rfl (Ql u8 [(((BitVec.ofInt 64 (l.length : Int)) * 8#64) >>> 56).setWidth 8] Qu m12 Zi X6 rfl rfl rfl) ?_
  rintro _ w13 ⟨b48, rfl, _ew13, m13⟩
  refine Za rfl (Zk (f := u8) (Hs := Hp) (H := [_, _]) (Mem.pick [_] Hp _ m13) gp rfl rfl (Rd.mkA m13.h0) Zi Zi X6 rfl Qu sD sD) ?_
  rintro sv14 w14 ⟨Hs14, m14, g14⟩
  replace g14 : Zv u8 5 sv14 ((l ++ 128#8 :: List.replicate ((119 - l.length % 64) % 64) 0#8) ++ ([(((BitVec.ofInt 64 (l.length : Int)) * 8#64) >>> 56).setWidth 8])) Hs14 := g14
  refine rA rfl (v := sv14) rfl ?_
  refine Zr (Qi (Qe ?_))
  refine Qa rfl (Qb (v := (i64 7)) rfl) <| Qa (v := (i64 6)) rfl (Zp (a := 7) (b := 1) rfl rfl oM oM) <| Qa rfl (Qc (v := (i64 6)) rfl) ?_
  refine rN (Zq (Qg (sR ?_)))
  refine Qa rfl (Qb (v := (i64 6)) rfl) <| Qa rfl (X5 (a := 6) (b := 0) rfl rfl) <| rN ?_
  have m15 := Mem.drop [_] _ (Mem.pick Hs14 [_] _ m14)
  refine Zc rfl (by decide) ?_
  refine Q7 (Qh (Qg (Qo (Qe ?_))))
  refine rM rfl (v := sv14) rfl <| Qa rfl (Qb (v := (u64 ((BitVec.ofInt 64 (l.length : Int)) * 8#64))) rfl) <| Qa rfl (Qb (v := (i64 6)) rfl) <| Qa (v := (i64 48)) rfl (Z7 (a := 8) (b := 6) rfl rfl oM oM) <| Qa rfl (Xy (b := 48) rfl rfl oM) <| Qa rfl (Xw ⟨_, X4⟩ Vm rfl) <| Za rfl (Ql u8 [(((BitVec.ofInt 64 (l.length : Int)) * 8#64) >>> 48).setWidth 8] Qu m15 Zi X6 rfl rfl rfl) ?_
  rintro _ w16 ⟨b48_1, rfl, _ew16, m16⟩
  refine Za rfl (Zk (f := u8) (Hs := Hs14) (H := [_, _]) (Mem.pick [_] Hs14 _ m16) g14 rfl rfl (Rd.mkA m16.h0) Zi Zi X6 rfl Qu sD sD) ?_
  rintro sv17 w17 ⟨Hs17, m17, g17⟩
  replace g17 : Zv u8 5 sv17 (((l ++ 128#8 :: List.replicate ((119 - l.length % 64) % 64) 0#8) ++ ([(((BitVec.ofInt 64 (l.length : Int)) * 8#64) >>> 56).setWidth 8])) ++ ([(((BitVec.ofInt 64 (l.length : Int)) * 8#64) >>> 48).setWidth 8])) Hs17 := g17
  refine rA rfl (v := sv17) rfl ?_
  refine Zr (Qi (Qe ?_))
  refine Qa rfl (Qb (v := (i64 6)) rfl) <| Qa (v := (i64 5)) rfl (Zp (a := 6) (b := 1) rfl rfl oM oM) <| Qa rfl (Qc (v := (i64 5)) rfl) ?_
  refine rN (Zq (Qg (sR ?_)))
  refine Qa rfl (Qb (v := (i64 5)) rfl) <| Qa rfl (X5 (a := 5) (b := 0) rfl rfl) <| rN ?_
  have m18 := Mem.drop [_] _ (Mem.pick Hs17 [_] _ m17)
  refine Zc rfl (by decide) ?_
  refine Q7 (Qh (Qg (Qo (Qe ?_))))
  refine rM rfl (v := sv17) rfl <| Qa rfl (Qb (v := (u64 ((BitVec.ofInt 64 (l.length : Int)) * 8#64))) rfl) <| Qa rfl (Qb (v := (i64 5)) rfl) <| Qa (v := (i64 40)) rfl (Z7 (a := 8) (b := 5) rfl rfl oM oM) <| Qa rfl (Xy (b := 40) rfl rfl oM) <| Qa rfl (Xw ⟨_, X4⟩ Vm rfl) <| Za rfl (Ql u8 [(((BitVec.ofInt 64 (l.length : Int)) * 8#64) >>> 40).setWidth 8] Qu m18 Zi X6 rfl rfl rfl) ?_
  rintro _ w19 ⟨b48_2, rfl, _ew19, m19⟩
  refine Za rfl (Zk (f := u8) (Hs := Hs17) (H := [_, _]) (Mem.pick [_] Hs17 _ m19) g17 rfl rfl (Rd.mkA m19.h0) Zi Zi X6 rfl Qu sD sD) ?_
  rintro sv20 w20 ⟨Hs20, m20, g20⟩
  replace g20 : Zv u8 5 sv20 ((((l ++ 128#8 :: List.replicate ((119 - l.length % 64) % 64) 0#8) ++ ([(((BitVec.ofInt 64 (l.length : Int)) * 8#64) >>> 56).setWidth 8])) ++ ([(((BitVec.ofInt 64 (l.length : Int)) * 8#64) >>> 48).setWidth 8])) ++ ([(((BitVec.ofInt 64 (l.length : Int)) * 8#64) >>> 40).setWidth 8])) Hs20 := g20
  refine rA rfl (v := sv20) rfl ?_
  refine Zr (Qi (Qe ?_))
  refine Qa rfl (Qb (v := (i64 5)) rfl) <| Qa (v := (i64 4)) rfl (Zp (a := 5) (b := 1) rfl rfl oM oM) <| Qa rfl (Qc (v := (i64 4)) rfl) ?_
  refine rN (Zq (Qg (sR ?_)))
  refine Qa rfl (Qb (v := (i64 4)) rfl) <| Qa rfl (X5 (a := 4) (b := 0) rfl rfl) <| rN ?_
  have m21 := Mem.drop [_] _ (Mem.pick Hs20 [_] _ m20)
  refine Zc rfl (by decide) ?_
  refine Q7 (Qh (Qg (Qo (Qe ?_))))
  refine rM rfl (v := sv20) rfl <| Qa rfl (Qb (v := (u64 ((BitVec.ofInt 64 (l.length : Int)) * 8#64))) rfl) <| Qa rfl (Qb (v := (i64 4)) rfl) <| Qa (v := (i64 32)) rfl (Z7 (a := 8) (b := 4) rfl rfl oM oM) <| Qa rfl (Xy (b := 32) rfl rfl oM) <| Qa rfl (Xw ⟨_, X4⟩ Vm rfl) <| Za rfl (Ql u8 [(((BitVec.ofInt 64 (l.length : Int)) * 8#64) >>> 32).setWidth 8] Qu m21 Zi X6 rfl rfl rfl) ?_
  rintro _ w22 ⟨b48_3, rfl, _ew22, m22⟩
  refine Za rfl (Zk (f := u8) (Hs := Hs20) (H := [_, _]) (Mem.pick [_] Hs20 _ m22) g20 rfl rfl (Rd.mkA m22.h0) Zi Zi X6 rfl Qu sD sD) ?_
  rintro sv23 w23 ⟨Hs23, m23, g23⟩
  replace g23 : Zv u8 5 sv23 (((((l ++ 128#8 :: List.replicate ((119 - l.length % 64) % 64) 0#8) ++ ([(((BitVec.ofInt 64 (l.length : Int)) * 8#64) >>> 56).setWidth 8])) ++ ([(((BitVec.ofInt 64 (l.length : Int)) * 8#64) >>> 48).setWidth 8])) ++ ([(((BitVec.ofInt 64 (l.length : Int)) * 8#64) >>> 40).setWidth 8])) ++ ([(((BitVec.ofInt 64 (l.length : Int)) * 8#64) >>> 32).setWidth 8])) Hs23 := g23
  refine rA rfl (v := sv23) rfl ?_
  refine Zr (Qi (Qe ?_))
  refine Qa rfl (Qb (v := (i64 4)) rfl) <| Qa (v := (i64 3)) rfl (Zp (a := 4) (b := 1) rfl rfl oM oM) <| Qa rfl (Qc (v := (i64 3)) rfl) ?_
  refine rN (Zq (Qg (sR ?_)))
  refine Qa rfl (Qb (v := (i64 3)) rfl) <| Qa rfl (X5 (a := 3) (b := 0) rfl rfl) <| rN ?_
  have m24 := Mem.drop [_] _ (Mem.pick Hs23 [_] _ m23)
  refine Zc rfl (by decide) ?_
  refine Q7 (Qh (Qg (Qo (Qe ?_))))
  refine rM rfl (v := sv23) rfl <| Qa rfl (Qb (v := (u64 ((BitVec.ofInt 64 (l.length : Int)) * 8#64))) rfl) <| Qa rfl (Qb (v := (i64 3)) rfl) <| Qa (v := (i64 24)) rfl (Z7 (a := 8) (b := 3) rfl rfl oM oM) <| Qa rfl (Xy (b := 24) rfl rfl oM) <| Qa rfl (Xw ⟨_, X4⟩ Vm rfl) <| Za rfl (Ql u8 [(((BitVec.ofInt 64 (l.length : Int)) * 8#64) >>> 24).setWidth 8] Qu m24 Zi X6 rfl rfl rfl) ?_
  rintro _ w25 ⟨b48_4, rfl, _ew25, m25⟩
  refine Za rfl (Zk (f := u8) (Hs := Hs23) (H := [_, _]) (Mem.pick [_] Hs23 _ m25) g23 rfl rfl (Rd.mkA m25.h0) Zi Zi X6 rfl Qu sD sD) ?_
  rintro sv26 w26 ⟨Hs26, m26, g26⟩
  replace g26 : Zv u8 5 sv26 ((((((l ++ 128#8 :: List.replicate ((119 - l.length % 64) % 64) 0#8) ++ ([(((BitVec.ofInt 64 (l.length : Int)) * 8#64) >>> 56).setWidth 8])) ++ ([(((BitVec.ofInt 64 (l.length : Int)) * 8#64) >>> 48).setWidth 8])) ++ ([(((BitVec.ofInt 64 (l.length : Int)) * 8#64) >>> 40).setWidth 8])) ++ ([(((BitVec.ofInt 64 (l.length : Int)) * 8#64) >>> 32).setWidth 8])) ++ ([(((BitVec.ofInt 64 (l.length : Int)) * 8#64) >>> 24).setWidth 8])) Hs26 := g26
  refine rA rfl (v := sv26) rfl ?_
  refine Zr (Qi (Qe ?_))
  refine Qa rfl (Qb (v := (i64 3)) rfl) <| Qa (v := (i64 2)) rfl (Zp (a := 3) (b := 1) rfl rfl oM oM) <| Qa rfl (Qc (v := (i64 2)) rfl) ?_
  refine rN (Zq (Qg (sR ?_)))
  refine Qa rfl (Qb (v := (i64 2)) rfl) <| Qa rfl (X5 (a := 2) (b := 0) rfl rfl) <| rN ?_
  have m27 := Mem.drop [_] _ (Mem.pick Hs26 [_] _ m26)
  refine CW.abs (fun g => g 0 = vb ∧ g 2 = (ptr b2 0) ∧ g 3 = sv26 ∧ g 4 = (u64 ((BitVec.ofInt 64 (l.length : Int)) * 8#64)) ∧ g 5 = (i64 2) ∧ g 30 = (bl ((((l ++ 128#8 :: List.replicate ((119 - l.length % 64) % 64) 0#8).length : Int) % 64) != 56)) ∧ g 39 = (bl true) ∧ True) ⟨s0, s2, rfl, rfl, rfl, rfl, rfl, trivial⟩ ?_
  rintro fr28 ⟨s0, s2, s3, s4, s5, s30, s39, _⟩
  refine Zc s39 (by decide) ?_
  refine Q7 (Qh (Qg (Qo (Qe ?_))))
  refine rM rfl s3 <| rM rfl s4 <| rM rfl s5 <| Qa (v := (i64 16)) rfl (Z7 (a := 8) (b := 2) rfl rfl oM oM) <| Qa rfl (Xy (b := 16) rfl rfl oM) <| Qa rfl (Xw ⟨_, X4⟩ Vm rfl) <| Za rfl (Ql u8 [(((BitVec.ofInt 64 (l.length : Int)) * 8#64) >>> 16).setWidth 8] Qu m27 Zi X6 rfl rfl rfl) ?_
  rintro _ w29 ⟨b48_5, rfl, _ew29, m29⟩
  refine Za rfl (Zk (f := u8) (Hs := Hs26) (H := [_, _]) (Mem.pick [_] Hs26 _ m29) g26 rfl rfl (Rd.mkA m29.h0) Zi Zi X6 rfl Qu sD sD) ?_
  rintro sv30 w30 ⟨Hs30, m30, g30⟩
  replace g30 : Zv u8 5 sv30 (((((((l ++ 128#8 :: List.replicate ((119 - l.length % 64) % 64) 0#8) ++ ([(((BitVec.ofInt 64 (l.length : Int)) * 8#64) >>> 56).setWidth 8])) ++ ([(((BitVec.ofInt 64 (l.length : Int)) * 8#64) >>> 48).setWidth 8])) ++ ([(((BitVec.ofInt 64 (l.length : Int)) * 8#64) >>> 40).setWidth 8])) ++ ([(((BitVec.ofInt 64 (l.length : Int)) * 8#64) >>> 32).setWidth 8])) ++ ([(((BitVec.ofInt 64 (l.length : Int)) * 8#64) >>> 24).setWidth 8])) ++ ([(((BitVec.ofInt 64 (l.length : Int)) * 8#64) >>> 16).setWidth 8])) Hs30 := g30
  refine rA rfl (v := sv30) rfl ?_
  refine Zr (Qi (Qe ?_))
  refine rM rfl s5 <| Qa (v := (i64 1)) rfl (Zp (a := 2) (b := 1) rfl rfl oM oM) <| Qa rfl (Qc (v := (i64 1)) rfl) ?_
  refine rN (Zq (Qg (sR ?_)))
  refine Qa rfl (Qb (v := (i64 1)) rfl) <| Qa rfl (X5 (a := 1) (b := 0) rfl rfl) <| rN ?_
  have m31 := Mem.drop [_] _ (Mem.pick Hs30 [_] _ m30)
  refine Zc rfl (by decide) ?_
  refine Q7 (Qh (Qg (Qo (Qe ?_))))
  refine rM rfl (v := sv30) rfl <| rM rfl s4 <| Qa rfl (Qb (v := (i64 1)) rfl) <| Qa (v := (i64 8)) rfl (Z7 (a := 8) (b := 1) rfl rfl oM oM) <| Qa rfl (Xy (b := 8) rfl rfl oM) <| Qa rfl (Xw ⟨_, X4⟩ Vm rfl) <| Za rfl (Ql u8 [(((BitVec.ofInt 64 (l.length : Int)) * 8#64) >>> 8).setWidth 8] Qu m31 Zi X6 rfl rfl rfl) ?_
  rintro _ w32 ⟨b48_6, rfl, _ew32, m32⟩
  refine Za rfl (Zk (f := u8) (Hs := Hs30) (H := [_, _]) (Mem.pick [_] Hs30 _ m32) g30 rfl rfl (Rd.mkA m32.h0) Zi Zi X6 rfl Qu sD sD) ?_
  rintro sv33 w33 ⟨Hs33, m33, g33⟩
  replace g33 : Zv u8 5 sv33 ((((((((l ++ 128#8 :: List.replicate ((119 - l.length % 64) % 64) 0#8) ++ ([(((BitVec.ofInt 64 (l.length : Int)) * 8#64) >>> 56).setWidth 8])) ++ ([(((BitVec.ofInt 64 (l.length : Int)) * 8#64) >>> 48).setWidth 8])) ++ ([(((BitVec.ofInt 64 (l.length : Int)) * 8#64) >>> 40).setWidth 8])) ++ ([(((BitVec.ofInt 64 (l.length : Int)) * 8#64) >>> 32).setWidth 8])) ++ ([(((BitVec.ofInt 64 (l.length : Int)) * 8#64) >>> 24).setWidth 8])) ++ ([(((BitVec.ofInt 64 (l.length : Int)) * 8#64) >>> 16).setWidth 8])) ++ ([(((BitVec.ofInt 64 (l.length : Int)) * 8#64) >>> 8).setWidth 8])) Hs33 := g33
  refine rA rfl (v := sv33) rfl ?_
  refine Zr (Qi (Qe ?_))
  refine Qa rfl (Qb (v := (i64 1)) rfl) <| Qa (v := (i64 0)) rfl (Zp (a := 1) (b := 1) rfl rfl oM oM) <| Qa rfl (Qc (v := (i64 0)) rfl) ?_
  refine rN (Zq (Qg (sR ?_)))
  refine Qa rfl (Qb (v := (i64 0)) rfl) <| Qa rfl (X5 (a := 0) (b := 0) rfl rfl) <| rN ?_
  have m34 := Mem.drop [_] _ (Mem.pick Hs33 [_] _ m33)
  refine Zc rfl (by decide) ?_
  refine Q7 (Qh (Qg (Qo (Qe ?_))))
  refine rM rfl (v := sv33) rfl <| rM rfl s4 <| Qa rfl (Qb (v := (i64 0)) rfl) <| Qa (v := (i64 0)) rfl (Z7 (a := 8) (b := 0) rfl rfl oM oM) <| Qa rfl (Xy (b := 0) rfl rfl oM) <| Qa rfl (Xw ⟨_, X4⟩ Vm rfl) <| Za rfl (Ql u8 [(((BitVec.ofInt 64 (l.length : Int)) * 8#64) >>> 0).setWidth 8] Qu m34 Zi X6 rfl rfl rfl) ?_
  rintro _ w35 ⟨b48_7, rfl, _ew35, m35⟩
  refine Za rfl (Zk (f := u8) (Hs := Hs33) (H := [_, _]) (Mem.pick [_] Hs33 _ m35) g33 rfl rfl (Rd.mkA m35.h0) Zi Zi X6 rfl Qu sD sD) ?_
  rintro sv36 w36 ⟨Hs36, m36, g36⟩
  replace g36 : Zv u8 5 sv36 (((((((((l ++ 128#8 :: List.replicate ((119 - l.length % 64) % 64) 0#8) ++ ([(((BitVec.ofInt 64 (l.length : Int)) * 8#64) >>> 56).setWidth 8])) ++ ([(((BitVec.ofInt 64 (l.length : Int)) * 8#64) >>> 48).setWidth 8])) ++ ([(((BitVec.ofInt 64 (l.length : Int)) * 8#64) >>> 40).setWidth 8])) ++ ([(((BitVec.ofInt 64 (l.length : Int)) * 8#64) >>> 32).setWidth 8])) ++ ([(((BitVec.ofInt 64 (l.length : Int)) * 8#64) >>> 24).setWidth 8])) ++ ([(((BitVec.ofInt 64 (l.length : Int)) * 8#64) >>> 16).setWidth 8])) ++ ([(((BitVec.ofInt 64 (l.length : Int)) * 8#64) >>> 8).setWidth 8])) ++ ([(((BitVec.ofInt 64 (l.length : Int)) * 8#64) >>> 0).setWidth 8])) Hs36 := g36
  refine rA rfl (v := sv36) rfl ?_
  refine Zr (Qi (Qe ?_))
  refine Qa rfl (Qb (v := (i64 0)) rfl) <| Qa (v := (i64 (-1))) rfl (Zp (a := 0) (b := 1) rfl rfl oM oM) <| Qa rfl (Qc (v := (i64 (-1))) rfl) ?_
  refine rN (Zq (Qg (sR ?_)))
  refine Qa rfl (Qb (v := (i64 (-1))) rfl) <| Qa rfl (X5 (a := (-1)) (b := 0) rfl rfl) <| rN ?_
  have m37 := Mem.drop [_] _ (Mem.pick Hs36 [_] _ m36)
  refine Yp rfl (by decide) <| X0 ?_
  refine Qr (Qr (Xf ?_))
  refine Qg ?_
  have hM : ((((((((l ++ 128#8 :: List.replicate ((119 - l.length % 64) % 64) 0#8) ++ ([(((BitVec.ofInt 64 (l.length : Int)) * 8#64) >>> 56).setWidth 8])) ++ ([(((BitVec.ofInt 64 (l.length : Int)) * 8#64) >>> 48).setWidth 8])) ++ ([(((BitVec.ofInt 64 (l.length : Int)) * 8#64) >>> 40).setWidth 8])) ++ ([(((BitVec.ofInt 64 (l.length : Int)) * 8#64) >>> 32).setWidth 8])) ++ ([(((BitVec.ofInt 64 (l.length : Int)) * 8#64) >>> 24).setWidth 8])) ++ ([(((BitVec.ofInt 64 (l.length : Int)) * 8#64) >>> 16).setWidth 8])) ++ ([(((BitVec.ofInt 64 (l.length : Int)) * 8#64) >>> 8).setWidth 8])) ++ ([(((BitVec.ofInt 64 (l.length : Int)) * 8#64) >>> 0).setWidth 8]) = (l ++ padR (BitVec.ofInt 64 (l.length : Int) * 8#64) ((119 - l.length % 64) % 64)) := by simp [padR]
  obtain ⟨M, hMM⟩ : ∃ M, M = (l ++ padR (BitVec.ofInt 64 (l.length : Int) * 8#64) ((119 - l.length % 64) % 64)) := ⟨_, rfl⟩
  have hMl : M.length = l.length + 9 + ((119 - l.length % 64) % 64) := by rw [hMM]; simp [padR]; omega
  have hMd : M.length % 64 = 0 := by clear m0; omega
  have gM38 := g36
  rw [hM, ← hMM] at gM38
  refine Qe <| Za rfl (oc105 (Qkv) (c_table _)) ?_
  rintro _ w39 ⟨rfl, _ew39⟩
  have m39 := m37.ext _ew39
  refine Za rfl (Zg m39 Rt) ?_
  rintro _ w41 ⟨b6, rfl, _ew41, m41⟩
  refine Zw (Qm (f := u32) (l := Ud) Z5 Rt rfl rfl sD m41.h0 sZ rfl) ?_
  rintro _ w42 uq42
  have m42 := m41.upd0 uq42
  refine rN (sR ?_)
  refine Qa rfl (Vf u32 [1779033703#32, 3144134277#32, 1013904242#32, 2773480762#32, 1359893119#32, 2600822924#32, 528734635#32, 1541459225#32] Z5 V5 Yh Zh rfl rfl) <| Za rfl (Zg m42 V5) ?_
  rintro _ w43 ⟨b7, rfl, _ew43, m43⟩
  refine Zw (Qm (f := u32) (l := [1779033703#32, 3144134277#32, 1013904242#32, 2773480762#32, 1359893119#32, 2600822924#32, 528734635#32, 1541459225#32]) Z5 V5 rfl rfl sD m43.h0 sZ rfl) ?_
  rintro _ w44 uq44
  have m44 := m43.upd0 uq44
  refine rN (Qg (sR ?_))
  refine Qa rfl (Qc (v := (i64 0)) rfl) ?_
  refine rN (Qo ?_)
  refine Yo (fun g wv => ∃ (m : Nat) (h0 h1 h2 h3 h4 h5 h6 h7 : BitVec 32), (64 * m ≤ M.length) ∧ ([h0, h1, h2, h3, h4, h5, h6, h7] = hAt Tf M m) ∧ g 0 = vb ∧ g 2 = (ptr b2 0) ∧ g 3 = sv36 ∧ g 4 = (u64 ((BitVec.ofInt 64 (l.length : Int)) * 8#64)) ∧ g 5 = (i64 (-1)) ∧ g 6 = (ptr b6 0) ∧ g 7 = (ptr b7 0) ∧ g 8 = (i64 ((64 * m : Nat) : Int)) ∧ g 30 = (bl ((((l ++ 128#8 :: List.replicate ((119 - l.length % 64) % 64) 0#8).length : Int) % 64) != 56)) ∧ g 39 = (bl false) ∧ Mem wv (Qy w0) ([(b7, .cells (cl u32 ([h0, h1, h2, h3, h4, h5, h6, h7])) 152 (0, 0)), (b6, .cells (cl u32 Ud) 160 (0, 0))] ++ (Hs36 ++ ([(b2, .cells (cl u8 (List.replicate 32 0)) 23 (0, 0))])))) (fun g wv => ((M.length : Int) - RowKit.intOf (g 8)).toNat) ?_ ?_
  ·exact ⟨0, 1779033703#32, 3144134277#32, 1013904242#32, 2773480762#32, 1359893119#32, 2600822924#32, 528734635#32, 1541459225#32, oM, (hAt_zero Tf M).symm, s0, s2, rfl, s4, rfl, rfl, rfl, rfl, s30, rfl, m44⟩
  rintro fr45 w46 ⟨m, h0, h1, h2, h3, h4, h5, h6, h7, hm, hh, s0, s2, s3, s4, s5, s6, s7, s8, s30, s39, m46⟩
  have z8 := s8
  refine Qg (sR ?_)
  refine rM rfl s8 <| rM rfl s3 <| Qa rfl (Ye (gM38.rd (Mem.pick [_, _] Hs36 _ m46)) Zi rfl) <| Qa rfl (Qs rfl rfl) <| rN ?_
  refine Xv rfl (fun hc47 => ?_) (fun hc47 => ?_)
  ·
   have hc47p := of_decide_eq_true hc47
   have m64 : 64 * m + 64 ≤ M.length := by clear hMl; omega
   refine Q7 (Qh (Qg (Qo (sR ?_))))
   refine Qa rfl (Jp (ps := []) (c := (cl u32 (List.replicate 64 0))) Rt Vj Zh (by simp) rfl) <| Za rfl (Zg m46 Rt) ?_
   rintro _ w48 ⟨b9, rfl, _ew48, m48⟩
   refine Zw (Qm (f := u32) (l := List.replicate 64 0) Z5 Rt rfl rfl sD m48.h0 sZ rfl) ?_
   rintro _ w49 uq49
   have m49 := m48.upd0 uq49
   refine rN (sR ?_)
   refine Qa rfl (Qw Yh rfl V5 s7 m49.h1 sZ) <| Za rfl (Zg m49 V5) ?_
   rintro _ w50 ⟨b10, rfl, _ew50, m50⟩
   refine Zw (Qm (f := u32) (l := [h0, h1, h2, h3, h4, h5, h6, h7]) Z5 V5 rfl rfl sD m50.h0 sZ rfl) ?_
   rintro _ w51 uq51
   have m51 := m50.upd0 uq51
   refine rN (Qg (sR ?_))
   refine Qa rfl (Qc (v := (i64 0)) rfl) ?_
   refine rN (Qo ?_)
   refine Yo (fun g wv => ∃ (i : Nat) (wl : List (BitVec 32)) (v0 v1 v2 v3 v4 v5 v6 v7 : BitVec 32), (i ≤ 64) ∧ (wl = Jv ((M.drop (64 * m)).take 64) i) ∧ ([v0, v1, v2, v3, v4, v5, v6, v7] = Nh (Uz ((M.drop (64 * m)).take 64)) i [h0, h1, h2, h3, h4, h5, h6, h7]) ∧ g 0 = vb ∧ g 2 = (ptr b2 0) ∧ g 3 = sv36 ∧ g 4 = (u64 ((BitVec.ofInt 64 (l.length : Int)) * 8#64)) ∧ g 5 = (i64 (-1)) ∧ g 6 = (ptr b6 0) ∧ g 7 = (ptr b7 0) ∧ g 8 = (i64 ((64 * m : Nat) : Int)) ∧ g 9 = (ptr b9 0) ∧ g 10 = (ptr b10 0) ∧ g 11 = (i64 (i : Int)) ∧ g 30 = (bl ((((l ++ 128#8 :: List.replicate ((119 - l.length % 64) % 64) 0#8).length : Int) % 64) != 56)) ∧ g 39 = (bl false) ∧ g 55 = (bl (decide (((64 * m : Nat) : Int) < (M.length : Int)))) ∧ Mem wv (Qy w0) ([(b10, .cells (cl u32 ([v0, v1, v2, v3, v4, v5, v6, v7])) 152 (0, 0)), (b9, .cells (cl u32 wl) 160 (0, 0)), (b7, .cells (cl u32 ([h0, h1, h2, h3, h4, h5, h6, h7])) 152 (0, 0)), (b6, .cells (cl u32 Ud) 160 (0, 0))] ++ (Hs36 ++ ([(b2, .cells (cl u8 (List.replicate 32 0)) 23 (0, 0))])))) (fun g wv => (64 - RowKit.intOf (g 11)).toNat) ?_ ?_
   ·exact ⟨0, (List.replicate 64 0), h0, h1, h2, h3, h4, h5, h6, h7, oM, (Qil _).symm, (Qjs _ _).symm, s0, s2, s3, s4, s5, s6, s7, s8, rfl, rfl, rfl, s30, s39, rfl, m51⟩
   rintro fr52 w53 ⟨i, wl, v0, v1, v2, v3, v4, v5, v6, v7, hi, hw, hv, s0, s2, s3, s4, s5, s6, s7, s8, s9, s10, s11, s30, s39, s55, m53⟩
   have z11 := s11
   have hwl : wl.length = 64 := by rw [hw]; simp
   refine Qg (sR ?_)
   refine rM rfl s11 <| Qa rfl (Qs (b := 64) rfl rfl) <| rN ?_
   refine Xv rfl (fun hc54 => ?_) (fun hc54 => ?_)
   ·
    have hc54p := of_decide_eq_true hc54
    refine Q7 (Qh (Qg (Qo (Qg (sR ?_)))))
    refine rM rfl s11 <| Qa rfl (Qs (b := 16) rfl rfl) <| rN ?_
    refine Pv (J := fun g wv => ∃ (wn : List (BitVec 32)), (wn = Jv ((M.drop (64 * m)).take 64) (i + 1)) ∧ g 0 = vb ∧ g 2 = (ptr b2 0) ∧ g 3 = sv36 ∧ g 4 = (u64 ((BitVec.ofInt 64 (l.length : Int)) * 8#64)) ∧ g 5 = (i64 (-1)) ∧ g 6 = (ptr b6 0) ∧ g 7 = (ptr b7 0) ∧ g 8 = (i64 ((64 * m : Nat) : Int)) ∧ g 9 = (ptr b9 0) ∧ g 10 = (ptr b10 0) ∧ g 11 = (i64 (i : Int)) ∧ g 30 = (bl ((((l ++ 128#8 :: List.replicate ((119 - l.length % 64) % 64) 0#8).length : Int) % 64) != 56)) ∧ g 39 = (bl false) ∧ g 55 = (bl (decide (((64 * m : Nat) : Int) < (M.length : Int)))) ∧ g 61 = (bl (decide ((i : Int) < 64))) ∧ g 65 = (bl (decide ((i : Int) < 16))) ∧ Mem wv (Qy w0) ([(b10, .cells (cl u32 ([v0, v1, v2, v3, v4, v5, v6, v7])) 152 (0, 0)), (b9, .cells (cl u32 wn) 160 (0, 0)), (b7, .cells (cl u32 ([h0, h1, h2, h3, h4, h5, h6, h7])) 152 (0, 0)), (b6, .cells (cl u32 Ud) 160 (0, 0))] ++ (Hs36 ++ ([(b2, .cells (cl u8 (List.replicate 32 0)) 23 (0, 0))])))) ?_ ?_
    ·skip
     refine Xv rfl (fun hc55 => ?_) (fun hc55 => ?_)
     ·
      have hc55p := of_decide_eq_true hc55
      refine sR <| Qa rfl (Qc (v := (i64 0)) rfl) ?_
      refine rN (Vq ?_)
      refine Kw 5 ?_
      refine Zq (Qg (sR ?_))
      refine Qa rfl (Qb (v := (i64 0)) rfl) <| Qa rfl (Qs (a := 0) (b := 4) rfl rfl) <| rN <| Zc rfl (by decide) ?_
      refine Q7 (Qh (Qg (Qo ?_)))
      refine Xq (dl 16) 16 (by kernel_rfl) <| dM rfl rfl s11 <| dM rfl rfl s11 <| Qj rfl rfl (fun _ _hx => Qd (r := i) oM Vj Zh s9 rfl oM sD) <| Qj rfl rfl (fun _ _hx => Qn Xk rfl rfl (m53.ext _hx).h1 (Qx _ _ 0 sD)) <| Qj rfl rfl (fun _ _hx => D6 (b := 256#32) rfl rfl) <| dM rfl rfl s3 <| dM rfl rfl s8 <| dM rfl rfl s11 <| Qj rfl rfl (fun _ _hx => Z7 (a := 4) rfl rfl oM oM) <| Qj rfl rfl (fun _ _hx => Qk rfl rfl oM oM) <| Qj rfl rfl (fun _ _hx => Qb (v := (i64 0)) rfl) ?_
      refine Qj rfl rfl (fun _ _hx => Qk (b := 0) rfl rfl oM oM) <| Qj rfl rfl (fun _ _hx => Xa (gM38.rd (Mem.pick [_, _, _, _] Hs36 _ (m53.ext _hx))) Zi X6 rfl rfl oM sD) <| Qj (v := (u8 (M.getD (((((64 * m : Nat) : Int) + (4 * (i : Int))) + 0 : Int).toNat) 0))) rfl rfl (fun _ _hx => Yc (l := M) (i := (((64 * m : Nat) : Int) + (4 * (i : Int))) + 0) (dflt := 0) (gM38.rd (Mem.pick [_, _, _, _] Hs36 _ (m53.ext _hx))) Vm rfl oM sD rfl) <| Qj rfl rfl (fun _ _hx => Jh ⟨_, Vm⟩ Xk rfl) <| Qj rfl rfl (fun _ _hx => Xp rfl rfl) ?_
      refine Xd (fun w56 _ew56 => ?_)
      have m56 := m53.ext _ew56
      refine Qa rfl (Qd (r := i) oM Vj Zh s9 rfl oM sD) <| Zw (Xn (f := u32) (a := ((wl.getD i 0) * 256#32) + ((M.getD (((((64 * m : Nat) : Int) + (4 * (i : Int))) + 0 : Int).toNat) 0).setWidth 32)) Z5 Zh rfl rfl m56.h1 sD (.inl (Nat.zero_le _))) ?_
      rintro _ w57 uq57
      have m57 := m56.upd1 uq57
      refine Zr (Qi (Qe ?_))
      refine Qa rfl (Qb (v := (i64 0)) rfl) <| Qa (v := (i64 1)) rfl (Qk (a := 0) (b := 1) rfl rfl oM oM) <| Qa rfl (Qc (v := (i64 1)) rfl) ?_
      refine rN (Zq (Qg (sR ?_)))
      refine Qa rfl (Qb (v := (i64 1)) rfl) <| Qa rfl (Qs (a := 1) (b := 4) rfl rfl) <| rN <| Zc rfl (by decide) ?_
      refine Q7 (Qh (Qg (Qo ?_)))
      refine Xq (dl 16) 16 (by kernel_rfl) <| dM rfl rfl s11 <| dM rfl rfl s11 <| Qj rfl rfl (fun _ _hx => Qd (r := i) oM Vj Zh s9 rfl oM sD) <| Qj rfl rfl (fun _ _hx => Qn Xk rfl rfl (m57.ext _hx).h1 (Qx _ _ 0 sD)) <| Qj rfl rfl (fun _ _hx => D6 (b := 256#32) rfl rfl) <| dM rfl rfl s3 <| dM rfl rfl s8 <| dM rfl rfl s11 <| Qj rfl rfl (fun _ _hx => Z7 (a := 4) rfl rfl oM oM) <| Qj rfl rfl (fun _ _hx => Qk rfl rfl oM oM) <| Qj rfl rfl (fun _ _hx => Qb (v := (i64 1)) rfl) ?_
      refine Qj rfl rfl (fun _ _hx => Qk (b := 1) rfl rfl oM oM) <| Qj rfl rfl (fun _ _hx => Xa (gM38.rd (Mem.pick [_, _, _, _] Hs36 _ (m57.ext _hx))) Zi X6 rfl rfl oM sD) <| Qj (v := (u8 (M.getD (((((64 * m : Nat) : Int) + (4 * (i : Int))) + 1 : Int).toNat) 0))) rfl rfl (fun _ _hx => Yc (l := M) (i := (((64 * m : Nat) : Int) + (4 * (i : Int))) + 1) (dflt := 0) (gM38.rd (Mem.pick [_, _, _, _] Hs36 _ (m57.ext _hx))) Vm rfl oM sD rfl) <| Qj rfl rfl (fun _ _hx => Jh ⟨_, Vm⟩ Xk rfl) <| Qj rfl rfl (fun _ _hx => Xp rfl rfl) ?_
      refine Xd (fun w58 _ew58 => ?_)
      have m58 := m57.ext _ew58
      refine Qa rfl (Qd (r := i) oM Vj Zh s9 rfl oM sD) <| Zw (Xn (f := u32) (a := (((wl.set i (((wl.getD i 0) * 256#32) + ((M.getD (((((64 * m : Nat) : Int) + (4 * (i : Int))) + 0 : Int).toNat) 0).setWidth 32))).getD i 0) * 256#32) + ((M.getD (((((64 * m : Nat) : Int) + (4 * (i : Int))) + 1 : Int).toNat) 0).setWidth 32)) Z5 Zh rfl rfl m58.h1 sD (.inl (Nat.zero_le _))) ?_
      rintro _ w59 uq59
      have m59 := m58.upd1 uq59
      refine Zr (Qi (Qe ?_))
      refine Qa rfl (Qb (v := (i64 1)) rfl) <| Qa (v := (i64 2)) rfl (Qk (a := 1) (b := 1) rfl rfl oM oM) <| Qa rfl (Qc (v := (i64 2)) rfl) ?_
      refine rN (Zq (Qg (sR ?_)))
      refine Qa rfl (Qb (v := (i64 2)) rfl) <| Qa rfl (Qs (a := 2) (b := 4) rfl rfl) <| rN <| Zc rfl (by decide) ?_
      refine Q7 (Qh (Qg (Qo ?_)))
      refine Xq (dl 16) 16 (by kernel_rfl) <| dM rfl rfl s11 <| dM rfl rfl s11 <| Qj rfl rfl (fun _ _hx => Qd (r := i) oM Vj Zh s9 rfl oM sD) <| Qj rfl rfl (fun _ _hx => Qn Xk rfl rfl (m59.ext _hx).h1 (Qx _ _ 0 sD)) <| Qj rfl rfl (fun _ _hx => D6 (b := 256#32) rfl rfl) <| dM rfl rfl s3 <| dM rfl rfl s8 <| dM rfl rfl s11 <| Qj rfl rfl (fun _ _hx => Z7 (a := 4) rfl rfl oM oM) <| Qj rfl rfl (fun _ _hx => Qk rfl rfl oM oM) <| Qj rfl rfl (fun _ _hx => Qb (v := (i64 2)) rfl) ?_
      refine Qj rfl rfl (fun _ _hx => Qk (b := 2) rfl rfl oM oM) <| Qj rfl rfl (fun _ _hx => Xa (gM38.rd (Mem.pick [_, _, _, _] Hs36 _ (m59.ext _hx))) Zi X6 rfl rfl oM sD) <| Qj (v := (u8 (M.getD (((((64 * m : Nat) : Int) + (4 * (i : Int))) + 2 : Int).toNat) 0))) rfl rfl (fun _ _hx => Yc (l := M) (i := (((64 * m : Nat) : Int) + (4 * (i : Int))) + 2) (dflt := 0) (gM38.rd (Mem.pick [_, _, _, _] Hs36 _ (m59.ext _hx))) Vm rfl oM sD rfl) <| Qj rfl rfl (fun _ _hx => Jh ⟨_, Vm⟩ Xk rfl) <| Qj rfl rfl (fun _ _hx => Xp rfl rfl) ?_
      refine Xd (fun w60 _ew60 => ?_)
      have m60 := m59.ext _ew60
      refine Qa rfl (Qd (r := i) oM Vj Zh s9 rfl oM sD) <| Zw (Xn (f := u32) (a := ((((wl.set i (((wl.getD i 0) * 256#32) + ((M.getD (((((64 * m : Nat) : Int) + (4 * (i : Int))) + 0 : Int).toNat) 0).setWidth 32))).set i ((((wl.set i (((wl.getD i 0) * 256#32) + ((M.getD (((((64 * m : Nat) : Int) + (4 * (i : Int))) + 0 : Int).toNat) 0).setWidth 32))).getD i 0) * 256#32) + ((M.getD (((((64 * m : Nat) : Int) + (4 * (i : Int))) + 1 : Int).toNat) 0).setWidth 32))).getD i 0) * 256#32) + ((M.getD (((((64 * m : Nat) : Int) + (4 * (i : Int))) + 2 : Int).toNat) 0).setWidth 32)) Z5 Zh rfl rfl m60.h1 sD (.inl (Nat.zero_le _))) ?_
      rintro _ w61 uq61
      have m61 := m60.upd1 uq61
      refine Zr (Qi (Qe ?_))
      refine Qa rfl (Qb (v := (i64 2)) rfl) <| Qa (v := (i64 3)) rfl (Qk (a := 2) (b := 1) rfl rfl oM oM) <| Qa rfl (Qc (v := (i64 3)) rfl) ?_
      refine rN (Zq (Qg (sR ?_)))
      refine Qa rfl (Qb (v := (i64 3)) rfl) <| Qa rfl (Qs (a := 3) (b := 4) rfl rfl) <| rN <| Zc rfl (by decide) ?_
      refine Q7 (Qh (Qg (Qo ?_)))
      refine Xq (dl 16) 16 (by kernel_rfl) <| dM rfl rfl s11 <| dM rfl rfl s11 <| Qj rfl rfl (fun _ _hx => Qd (r := i) oM Vj Zh s9 rfl oM sD) <| Qj rfl rfl (fun _ _hx => Qn Xk rfl rfl (m61.ext _hx).h1 (Qx _ _ 0 sD)) <| Qj rfl rfl (fun _ _hx => D6 (b := 256#32) rfl rfl) <| dM rfl rfl s3 <| dM rfl rfl s8 <| dM rfl rfl s11 <| Qj rfl rfl (fun _ _hx => Z7 (a := 4) rfl rfl oM oM) <| Qj rfl rfl (fun _ _hx => Qk rfl rfl oM oM) <| Qj rfl rfl (fun _ _hx => Qb (v := (i64 3)) rfl) ?_
      refine Qj rfl rfl (fun _ _hx => Qk (b := 3) rfl rfl oM oM) <| Qj rfl rfl (fun _ _hx => Xa (gM38.rd (Mem.pick [_, _, _, _] Hs36 _ (m61.ext _hx))) Zi X6 rfl rfl oM sD) <| Qj (v := (u8 (M.getD (((((64 * m : Nat) : Int) + (4 * (i : Int))) + 3 : Int).toNat) 0))) rfl rfl (fun _ _hx => Yc (l := M) (i := (((64 * m : Nat) : Int) + (4 * (i : Int))) + 3) (dflt := 0) (gM38.rd (Mem.pick [_, _, _, _] Hs36 _ (m61.ext _hx))) Vm rfl oM sD rfl) <| Qj rfl rfl (fun _ _hx => Jh ⟨_, Vm⟩ Xk rfl) <| Qj rfl rfl (fun _ _hx => Xp rfl rfl) ?_
      refine Xd (fun w62 _ew62 => ?_)
      have m62 := m61.ext _ew62
      refine Qa rfl (Qd (r := i) oM Vj Zh s9 rfl oM sD) <| Zw (Xn (f := u32) (a := (((((wl.set i (((wl.getD i 0) * 256#32) + ((M.getD (((((64 * m : Nat) : Int) + (4 * (i : Int))) + 0 : Int).toNat) 0).setWidth 32))).set i ((((wl.set i (((wl.getD i 0) * 256#32) + ((M.getD (((((64 * m : Nat) : Int) + (4 * (i : Int))) + 0 : Int).toNat) 0).setWidth 32))).getD i 0) * 256#32) + ((M.getD (((((64 * m : Nat) : Int) + (4 * (i : Int))) + 1 : Int).toNat) 0).setWidth 32))).set i (((((wl.set i (((wl.getD i 0) * 256#32) + ((M.getD (((((64 * m : Nat) : Int) + (4 * (i : Int))) + 0 : Int).toNat) 0).setWidth 32))).set i ((((wl.set i (((wl.getD i 0) * 256#32) + ((M.getD (((((64 * m : Nat) : Int) + (4 * (i : Int))) + 0 : Int).toNat) 0).setWidth 32))).getD i 0) * 256#32) + ((M.getD (((((64 * m : Nat) : Int) + (4 * (i : Int))) + 1 : Int).toNat) 0).setWidth 32))).getD i 0) * 256#32) + ((M.getD (((((64 * m : Nat) : Int) + (4 * (i : Int))) + 2 : Int).toNat) 0).setWidth 32))).getD i 0) * 256#32) + ((M.getD (((((64 * m : Nat) : Int) + (4 * (i : Int))) + 3 : Int).toNat) 0).setWidth 32)) Z5 Zh rfl rfl m62.h1 sD (.inl (Nat.zero_le _))) ?_
      rintro _ w63 uq63
      have m63 := m62.upd1 uq63
      refine Zr (Qi ?_)
      refine CW.abs (fun g => g 0 = vb ∧ g 2 = (ptr b2 0) ∧ g 3 = sv36 ∧ g 4 = (u64 ((BitVec.ofInt 64 (l.length : Int)) * 8#64)) ∧ g 5 = (i64 (-1)) ∧ g 6 = (ptr b6 0) ∧ g 7 = (ptr b7 0) ∧ g 8 = (i64 ((64 * m : Nat) : Int)) ∧ g 9 = (ptr b9 0) ∧ g 10 = (ptr b10 0) ∧ g 11 = (i64 (i : Int)) ∧ g 12 = (i64 3) ∧ g 30 = (bl ((((l ++ 128#8 :: List.replicate ((119 - l.length % 64) % 64) 0#8).length : Int) % 64) != 56)) ∧ g 39 = (bl false) ∧ g 55 = (bl (decide (((64 * m : Nat) : Int) < (M.length : Int)))) ∧ g 61 = (bl (decide ((i : Int) < 64))) ∧ g 65 = (bl (decide ((i : Int) < 16))) ∧ g 67 = (bl true) ∧ True) ⟨s0, s2, s3, s4, s5, s6, s7, s8, s9, s10, s11, rfl, s30, s39, s55, rfl, rfl, rfl, trivial⟩ ?_
      rintro fr64 ⟨s0, s2, s3, s4, s5, s6, s7, s8, s9, s10, s11, s12, s30, s39, s55, s61, s65, s67, _⟩
      refine Qe <| rM rfl s12 <| Qa (v := (i64 4)) rfl (Qk (a := 3) (b := 1) rfl rfl oM oM) <| Qa rfl (Qc (v := (i64 4)) rfl) ?_
      refine rN (Zq (Qg (sR ?_)))
      refine Qa rfl (Qb (v := (i64 4)) rfl) <| Qa rfl (Qs (a := 4) (b := 4) rfl rfl) <| rN <| Yp rfl (by decide) <| X0 ?_
      refine Qr (Qr (Xf ?_))
      refine Qh ?_
      have hwn : (((wl.set i (((wl.getD i 0) * 256#32) + ((M.getD (((((64 * m : Nat) : Int) + (4 * (i : Int))) + 0 : Int).toNat) 0).setWidth 32))).set i ((((wl.set i (((wl.getD i 0) * 256#32) + ((M.getD (((((64 * m : Nat) : Int) + (4 * (i : Int))) + 0 : Int).toNat) 0).setWidth 32))).getD i 0) * 256#32) + ((M.getD (((((64 * m : Nat) : Int) + (4 * (i : Int))) + 1 : Int).toNat) 0).setWidth 32))).set i (((((wl.set i (((wl.getD i 0) * 256#32) + ((M.getD (((((64 * m : Nat) : Int) + (4 * (i : Int))) + 0 : Int).toNat) 0).setWidth 32))).set i ((((wl.set i (((wl.getD i 0) * 256#32) + ((M.getD (((((64 * m : Nat) : Int) + (4 * (i : Int))) + 0 : Int).toNat) 0).setWidth 32))).getD i 0) * 256#32) + ((M.getD (((((64 * m : Nat) : Int) + (4 * (i : Int))) + 1 : Int).toNat) 0).setWidth 32))).getD i 0) * 256#32) + ((M.getD (((((64 * m : Nat) : Int) + (4 * (i : Int))) + 2 : Int).toNat) 0).setWidth 32))).set i ((((((wl.set i (((wl.getD i 0) * 256#32) + ((M.getD (((((64 * m : Nat) : Int) + (4 * (i : Int))) + 0 : Int).toNat) 0).setWidth 32))).set i ((((wl.set i (((wl.getD i 0) * 256#32) + ((M.getD (((((64 * m : Nat) : Int) + (4 * (i : Int))) + 0 : Int).toNat) 0).setWidth 32))).getD i 0) * 256#32) + ((M.getD (((((64 * m : Nat) : Int) + (4 * (i : Int))) + 1 : Int).toNat) 0).setWidth 32))).set i (((((wl.set i (((wl.getD i 0) * 256#32) + ((M.getD (((((64 * m : Nat) : Int) + (4 * (i : Int))) + 0 : Int).toNat) 0).setWidth 32))).set i ((((wl.set i (((wl.getD i 0) * 256#32) + ((M.getD (((((64 * m : Nat) : Int) + (4 * (i : Int))) + 0 : Int).toNat) 0).setWidth 32))).getD i 0) * 256#32) + ((M.getD (((((64 * m : Nat) : Int) + (4 * (i : Int))) + 1 : Int).toNat) 0).setWidth 32))).getD i 0) * 256#32) + ((M.getD (((((64 * m : Nat) : Int) + (4 * (i : Int))) + 2 : Int).toNat) 0).setWidth 32))).getD i 0) * 256#32) + ((M.getD (((((64 * m : Nat) : Int) + (4 * (i : Int))) + 3 : Int).toNat) 0).setWidth 32)) = Jv ((M.drop (64 * m)).take 64) (i + 1) := by
       have e0 : (((64 * m : Nat) : Int) + 4 * (i : Int) + 0).toNat = 64 * m + (4 * i + 0) := by omega
       have e1 : (((64 * m : Nat) : Int) + 4 * (i : Int) + 1).toNat = 64 * m + (4 * i + 1) := by omega
       have e2 : (((64 * m : Nat) : Int) + 4 * (i : Int) + 2).toNat = 64 * m + (4 * i + 2) := by omega
       have e3 : (((64 * m : Nat) : Int) + 4 * (i : Int) + 3).toNat = 64 * m + (4 * i + 3) := by omega
       simp only [e0, e1, e2, e3]
       exact Qik ((M.drop (64 * m)).take 64) i oM _ _ _ _ (Qdd M m (4 * i) oM oM) (Qdd M m (4 * i + 1) oM oM) (Qdd M m (4 * i + 2) oM oM) (Qdd M m (4 * i + 3) oM oM) wl hw
      exact ⟨((((wl.set i (((wl.getD i 0) * 256#32) + ((M.getD (((((64 * m : Nat) : Int) + (4 * (i : Int))) + 0 : Int).toNat) 0).setWidth 32))).set i ((((wl.set i (((wl.getD i 0) * 256#32) + ((M.getD (((((64 * m : Nat) : Int) + (4 * (i : Int))) + 0 : Int).toNat) 0).setWidth 32))).getD i 0) * 256#32) + ((M.getD (((((64 * m : Nat) : Int) + (4 * (i : Int))) + 1 : Int).toNat) 0).setWidth 32))).set i (((((wl.set i (((wl.getD i 0) * 256#32) + ((M.getD (((((64 * m : Nat) : Int) + (4 * (i : Int))) + 0 : Int).toNat) 0).setWidth 32))).set i ((((wl.set i (((wl.getD i 0) * 256#32) + ((M.getD (((((64 * m : Nat) : Int) + (4 * (i : Int))) + 0 : Int).toNat) 0).setWidth 32))).getD i 0) * 256#32) + ((M.getD (((((64 * m : Nat) : Int) + (4 * (i : Int))) + 1 : Int).toNat) 0).setWidth 32))).getD i 0) * 256#32) + ((M.getD (((((64 * m : Nat) : Int) + (4 * (i : Int))) + 2 : Int).toNat) 0).setWidth 32))).set i ((((((wl.set i (((wl.getD i 0) * 256#32) + ((M.getD (((((64 * m : Nat) : Int) + (4 * (i : Int))) + 0 : Int).toNat) 0).setWidth 32))).set i ((((wl.set i (((wl.getD i 0) * 256#32) + ((M.getD (((((64 * m : Nat) : Int) + (4 * (i : Int))) + 0 : Int).toNat) 0).setWidth 32))).getD i 0) * 256#32) + ((M.getD (((((64 * m : Nat) : Int) + (4 * (i : Int))) + 1 : Int).toNat) 0).setWidth 32))).set i (((((wl.set i (((wl.getD i 0) * 256#32) + ((M.getD (((((64 * m : Nat) : Int) + (4 * (i : Int))) + 0 : Int).toNat) 0).setWidth 32))).set i ((((wl.set i (((wl.getD i 0) * 256#32) + ((M.getD (((((64 * m : Nat) : Int) + (4 * (i : Int))) + 0 : Int).toNat) 0).setWidth 32))).getD i 0) * 256#32) + ((M.getD (((((64 * m : Nat) : Int) + (4 * (i : Int))) + 1 : Int).toNat) 0).setWidth 32))).getD i 0) * 256#32) + ((M.getD (((((64 * m : Nat) : Int) + (4 * (i : Int))) + 2 : Int).toNat) 0).setWidth 32))).getD i 0) * 256#32) + ((M.getD (((((64 * m : Nat) : Int) + (4 * (i : Int))) + 3 : Int).toNat) 0).setWidth 32))), hwn, s0, s2, s3, s4, s5, s6, s7, s8, s9, s10, s11, s30, s39, s55, s61, s65, m63⟩
     ·
      have hc55p := of_decide_eq_false hc55
      refine Xq (dl 46) 46 (by kernel_rfl) <| dM rfl rfl s11 <| dM rfl rfl s11 <| Qj rfl rfl (fun _ _hx => Zp (b := 2) rfl rfl oM oM) <| Qj rfl rfl (fun _ _hx => Qd (r := ((i : Int) - 2 : Int).toNat) oM Vj Zh s9 rfl oM sD) <| Qj (v := (u32 (wl.getD (((i : Int) - 2 : Int).toNat) 0))) rfl rfl (fun _ _hx => Qn Xk rfl rfl (m53.ext _hx).h1 (Qx _ _ 0 sD)) <| Kv rfl rfl (fun w65 _ew65 => Qb5 (Xr rfl rfl) (Dw (wl.getD (((i : Int) - 2 : Int).toNat) 0) _ _ sD sD)) <| dM rfl rfl s11 <| Qj rfl rfl (fun _ _hx => Zp (b := 2) rfl rfl oM oM) <| Qj rfl rfl (fun _ _hx => Qd (r := ((i : Int) - 2 : Int).toNat) oM Vj Zh s9 rfl oM sD) <| Qj (v := (u32 (wl.getD (((i : Int) - 2 : Int).toNat) 0))) rfl rfl (fun _ _hx => Qn Xk rfl rfl (m53.ext _hx).h1 (Qx _ _ 0 sD)) <| Kv rfl rfl (fun w68 _ew68 => Qb5 (Xr rfl rfl) (Dw (wl.getD (((i : Int) - 2 : Int).toNat) 0) _ _ sD sD)) ?_
      refine Qj rfl rfl (fun _ _hx => Y0 rfl rfl) <| dM rfl rfl s11 <| Qj rfl rfl (fun _ _hx => Zp (b := 2) rfl rfl oM oM) <| Qj rfl rfl (fun _ _hx => Qd (r := ((i : Int) - 2 : Int).toNat) oM Vj Zh s9 rfl oM sD) <| Qj (v := (u32 (wl.getD (((i : Int) - 2 : Int).toNat) 0))) rfl rfl (fun _ _hx => Qn Xk rfl rfl (m53.ext _hx).h1 (Qx _ _ 0 sD)) <| Qj rfl rfl (fun _ _hx => V8 (b := 10) rfl rfl oM) <| Qj rfl rfl (fun _ _hx => Y0 rfl rfl) <| dM rfl rfl s11 <| Qj rfl rfl (fun _ _hx => Zp (b := 7) rfl rfl oM oM) <| Qj rfl rfl (fun _ _hx => Qd (r := ((i : Int) - 7 : Int).toNat) oM Vj Zh s9 rfl oM sD) <| Qj (v := (u32 (wl.getD (((i : Int) - 7 : Int).toNat) 0))) rfl rfl (fun _ _hx => Qn Xk rfl rfl (m53.ext _hx).h1 (Qx _ _ 0 sD)) <| Qj rfl rfl (fun _ _hx => Xp rfl rfl) ?_
      refine dM rfl rfl s11 <| Qj rfl rfl (fun _ _hx => Zp (b := 15) rfl rfl oM oM) <| Qj rfl rfl (fun _ _hx => Qd (r := ((i : Int) - 15 : Int).toNat) oM Vj Zh s9 rfl oM sD) <| Qj (v := (u32 (wl.getD (((i : Int) - 15 : Int).toNat) 0))) rfl rfl (fun _ _hx => Qn Xk rfl rfl (m53.ext _hx).h1 (Qx _ _ 0 sD)) <| Kv rfl rfl (fun w71 _ew71 => Qb5 (Xr rfl rfl) (Dw (wl.getD (((i : Int) - 15 : Int).toNat) 0) _ _ sD sD)) <| dM rfl rfl s11 <| Qj rfl rfl (fun _ _hx => Zp (b := 15) rfl rfl oM oM) <| Qj rfl rfl (fun _ _hx => Qd (r := ((i : Int) - 15 : Int).toNat) oM Vj Zh s9 rfl oM sD) <| Qj (v := (u32 (wl.getD (((i : Int) - 15 : Int).toNat) 0))) rfl rfl (fun _ _hx => Qn Xk rfl rfl (m53.ext _hx).h1 (Qx _ _ 0 sD)) <| Kv rfl rfl (fun w74 _ew74 => Qb5 (Xr rfl rfl) (Dw (wl.getD (((i : Int) - 15 : Int).toNat) 0) _ _ sD sD)) <| Qj rfl rfl (fun _ _hx => Y0 rfl rfl) <| dM rfl rfl s11 ?_
      refine Qj rfl rfl (fun _ _hx => Zp (b := 15) rfl rfl oM oM) <| Qj rfl rfl (fun _ _hx => Qd (r := ((i : Int) - 15 : Int).toNat) oM Vj Zh s9 rfl oM sD) <| Qj (v := (u32 (wl.getD (((i : Int) - 15 : Int).toNat) 0))) rfl rfl (fun _ _hx => Qn Xk rfl rfl (m53.ext _hx).h1 (Qx _ _ 0 sD)) <| Qj rfl rfl (fun _ _hx => V8 (b := 3) rfl rfl oM) <| Qj rfl rfl (fun _ _hx => Y0 rfl rfl) <| Qj rfl rfl (fun _ _hx => Xp rfl rfl) <| dM rfl rfl s11 <| Qj rfl rfl (fun _ _hx => Zp (b := 16) rfl rfl oM oM) <| Qj rfl rfl (fun _ _hx => Qd (r := ((i : Int) - 16 : Int).toNat) oM Vj Zh s9 rfl oM sD) <| Qj (v := (u32 (wl.getD (((i : Int) - 16 : Int).toNat) 0))) rfl rfl (fun _ _hx => Qn Xk rfl rfl (m53.ext _hx).h1 (Qx _ _ 0 sD)) <| Qj rfl rfl (fun _ _hx => Xp rfl rfl) ?_
      refine Xd (fun w77 _ew77 => ?_)
      have m77 := m53.ext _ew77
      refine Qa rfl (Qd (r := i) oM Vj Zh s9 rfl oM sD) <| Zw (Xn (f := u32) (a := (((((Yi (wl.getD (((i : Int) - 2 : Int).toNat) 0) (17 : Int)) ^^^ (Yi (wl.getD (((i : Int) - 2 : Int).toNat) 0) (19 : Int))) ^^^ ((wl.getD (((i : Int) - 2 : Int).toNat) 0) >>> 10)) + (wl.getD (((i : Int) - 7 : Int).toNat) 0)) + (((Yi (wl.getD (((i : Int) - 15 : Int).toNat) 0) (7 : Int)) ^^^ (Yi (wl.getD (((i : Int) - 15 : Int).toNat) 0) (18 : Int))) ^^^ ((wl.getD (((i : Int) - 15 : Int).toNat) 0) >>> 3))) + (wl.getD (((i : Int) - 16 : Int).toNat) 0)) Z5 Zh rfl rfl m77.h1 sD (.inl (Nat.zero_le _))) ?_
      rintro _ w78 uq78
      have m78 := m77.upd1 uq78
      refine rN ?_
      have hwn : wl.set i ((((((Yi (wl.getD (((i : Int) - 2 : Int).toNat) 0) (17 : Int)) ^^^ (Yi (wl.getD (((i : Int) - 2 : Int).toNat) 0) (19 : Int))) ^^^ ((wl.getD (((i : Int) - 2 : Int).toNat) 0) >>> 10)) + (wl.getD (((i : Int) - 7 : Int).toNat) 0)) + (((Yi (wl.getD (((i : Int) - 15 : Int).toNat) 0) (7 : Int)) ^^^ (Yi (wl.getD (((i : Int) - 15 : Int).toNat) 0) (18 : Int))) ^^^ ((wl.getD (((i : Int) - 15 : Int).toNat) 0) >>> 3))) + (wl.getD (((i : Int) - 16 : Int).toNat) 0)) = Jv ((M.drop (64 * m)).take 64) (i + 1) := by
       have e16 : ((i : Int) - 16).toNat = i - 16 := by omega
       have e7 : ((i : Int) - 7).toNat = i - 7 := by omega
       have e15 : ((i : Int) - 15).toNat = i - 15 := by omega
       have e2 : ((i : Int) - 2).toNat = i - 2 := by omega
       simp only [e16, e7, e15, e2]
       exact Qjo ((M.drop (64 * m)).take 64) i oM oM wl hw
      exact ⟨(wl.set i ((((((Yi (wl.getD (((i : Int) - 2 : Int).toNat) 0) (17 : Int)) ^^^ (Yi (wl.getD (((i : Int) - 2 : Int).toNat) 0) (19 : Int))) ^^^ ((wl.getD (((i : Int) - 2 : Int).toNat) 0) >>> 10)) + (wl.getD (((i : Int) - 7 : Int).toNat) 0)) + (((Yi (wl.getD (((i : Int) - 15 : Int).toNat) 0) (7 : Int)) ^^^ (Yi (wl.getD (((i : Int) - 15 : Int).toNat) 0) (18 : Int))) ^^^ ((wl.getD (((i : Int) - 15 : Int).toNat) 0) >>> 3))) + (wl.getD (((i : Int) - 16 : Int).toNat) 0))), hwn, s0, s2, s3, s4, s5, s6, s7, s8, s9, s10, s11, s30, s39, s55, rfl, rfl, m78⟩
    rintro fr79 w80 ⟨wn, hwn, s0, s2, s3, s4, s5, s6, s7, s8, s9, s10, s11, s30, s39, s55, s61, s65, m80⟩
    have hwnl : wn.length = 64 := by rw [hwn, Nb]
    refine sR <| Qa rfl (Qd (r := 4) (i := 4) oM Yh Zh s10 rfl oM oM) <| Qa (v := (u32 v4)) rfl (Qn Xk rfl rfl m80.h0 (Qx _ _ 0 (by simp))) <| Qa rfl (Qd (r := 5) (i := 5) oM Yh Zh s10 rfl oM oM) <| Qa (v := (u32 v5)) rfl (Qn Xk rfl rfl m80.h0 (Qx _ _ 0 (by simp))) <| Qa rfl (Uo rfl rfl) <| Qa rfl (Qd (r := 4) (i := 4) oM Yh Zh s10 rfl oM oM) <| Qa (v := (u32 v4)) rfl (Qn Xk rfl rfl m80.h0 (Qx _ _ 0 (by simp))) <| Qa rfl (Qgd rfl) <| Qa rfl (Qd (r := 6) (i := 6) oM Yh Zh s10 rfl oM oM) <| Qa (v := (u32 v6)) rfl (Qn Xk rfl rfl m80.h0 (Qx _ _ 0 (by simp))) <| Qa rfl (Uo rfl rfl) ?_
    refine Qa rfl (Y0 rfl rfl) <| Qa rfl (Qc (v := (u32 ((v4 &&& v5) ^^^ ((~~~v4) &&& v6)))) rfl) ?_
    refine rN (sR ?_)
    refine Qa rfl (Qd (r := 0) (i := 0) oM Yh Zh s10 rfl oM oM) <| Qa (v := (u32 v0)) rfl (Qn Xk rfl rfl m80.h0 (Qx _ _ 0 (by simp))) <| Qa rfl (Qd (r := 1) (i := 1) oM Yh Zh s10 rfl oM oM) <| Qa (v := (u32 v1)) rfl (Qn Xk rfl rfl m80.h0 (Qx _ _ 0 (by simp))) <| Qa rfl (Uo rfl rfl) <| Qa rfl (Qd (r := 0) (i := 0) oM Yh Zh s10 rfl oM oM) <| Qa (v := (u32 v0)) rfl (Qn Xk rfl rfl m80.h0 (Qx _ _ 0 (by simp))) <| Qa rfl (Qd (r := 2) (i := 2) oM Yh Zh s10 rfl oM oM) <| Qa (v := (u32 v2)) rfl (Qn Xk rfl rfl m80.h0 (Qx _ _ 0 (by simp))) <| Qa rfl (Uo rfl rfl) <| Qa rfl (Y0 rfl rfl) <| Qa rfl (Qd (r := 1) (i := 1) oM Yh Zh s10 rfl oM oM) ?_
    refine Qa (v := (u32 v1)) rfl (Qn Xk rfl rfl m80.h0 (Qx _ _ 0 (by simp))) <| Qa rfl (Qd (r := 2) (i := 2) oM Yh Zh s10 rfl oM oM) <| Qa (v := (u32 v2)) rfl (Qn Xk rfl rfl m80.h0 (Qx _ _ 0 (by simp))) <| Qa rfl (Uo rfl rfl) <| Qa rfl (Y0 rfl rfl) <| Qa rfl (Qc (v := (u32 (((v0 &&& v1) ^^^ (v0 &&& v2)) ^^^ (v1 &&& v2)))) rfl) ?_
    refine rN (Qg ?_)
    refine Xq (dl 23) 23 (by kernel_rfl) <| Qj rfl rfl (fun _ _hx => Qd (r := 7) (i := 7) oM Yh Zh s10 rfl oM oM) <| Qj (v := (u32 v7)) rfl rfl (fun _ _hx => Qn Xk rfl rfl (m80.ext _hx).h0 (Qx _ _ 0 (by simp))) <| Qj rfl rfl (fun _ _hx => Qd (r := 4) (i := 4) oM Yh Zh s10 rfl oM oM) <| Qj (v := (u32 v4)) rfl rfl (fun _ _hx => Qn Xk rfl rfl (m80.ext _hx).h0 (Qx _ _ 0 (by simp))) <| Kv rfl rfl (fun w81 _ew81 => Qb5 (Xr rfl rfl) (Dw v4 _ _ sD sD)) <| Qj rfl rfl (fun _ _hx => Qd (r := 4) (i := 4) oM Yh Zh s10 rfl oM oM) <| Qj (v := (u32 v4)) rfl rfl (fun _ _hx => Qn Xk rfl rfl (m80.ext _hx).h0 (Qx _ _ 0 (by simp))) <| Kv rfl rfl (fun w84 _ew84 => Qb5 (Xr rfl rfl) (Dw v4 _ _ sD sD)) <| Qj rfl rfl (fun _ _hx => Y0 rfl rfl) <| Qj rfl rfl (fun _ _hx => Qd (r := 4) (i := 4) oM Yh Zh s10 rfl oM oM) <| Qj (v := (u32 v4)) rfl rfl (fun _ _hx => Qn Xk rfl rfl (m80.ext _hx).h0 (Qx _ _ 0 (by simp))) ?_
    refine Kv rfl rfl (fun w87 _ew87 => Qb5 (Xr rfl rfl) (Dw v4 _ _ sD sD)) <| Qj rfl rfl (fun _ _hx => Y0 rfl rfl) <| Qj rfl rfl (fun _ _hx => Xp rfl rfl) <| Qj rfl rfl (fun _ _hx => Qb (v := (u32 ((v4 &&& v5) ^^^ ((~~~v4) &&& v6)))) rfl) <| Qj rfl rfl (fun _ _hx => Xp rfl rfl) <| dM rfl rfl s11 <| Qj rfl rfl (fun _ _hx => Qd (r := i) oM Vj Zh s6 rfl oM sD) <| Qj rfl rfl (fun _ _hx => Qn Xk rfl rfl (m80.ext _hx).h3 (Qx _ _ 0 sD)) <| Qj rfl rfl (fun _ _hx => Xp rfl rfl) <| dM rfl rfl s11 <| Qj rfl rfl (fun _ _hx => Qd (r := i) oM Vj Zh s9 rfl oM sD) <| Qj rfl rfl (fun _ _hx => Qn Xk rfl rfl (m80.ext _hx).h1 (Qx _ _ 0 sD)) ?_
    refine Xd (fun w90 _ew90 => ?_)
    have m90 := m80.ext _ew90
    refine Qa rfl (Xp rfl rfl) <| rA rfl rfl ?_
    refine rN (Qg ?_)
    refine Xq (dl 12) 12 (by kernel_rfl) <| Qj rfl rfl (fun _ _hx => Qd (r := 0) (i := 0) oM Yh Zh s10 rfl oM oM) <| Qj (v := (u32 v0)) rfl rfl (fun _ _hx => Qn Xk rfl rfl (m90.ext _hx).h0 (Qx _ _ 0 (by simp))) <| Kv rfl rfl (fun w91 _ew91 => Qb5 (Xr rfl rfl) (Dw v0 _ _ sD sD)) <| Qj rfl rfl (fun _ _hx => Qd (r := 0) (i := 0) oM Yh Zh s10 rfl oM oM) <| Qj (v := (u32 v0)) rfl rfl (fun _ _hx => Qn Xk rfl rfl (m90.ext _hx).h0 (Qx _ _ 0 (by simp))) <| Kv rfl rfl (fun w94 _ew94 => Qb5 (Xr rfl rfl) (Dw v0 _ _ sD sD)) <| Qj rfl rfl (fun _ _hx => Y0 rfl rfl) <| Qj rfl rfl (fun _ _hx => Qd (r := 0) (i := 0) oM Yh Zh s10 rfl oM oM) <| Qj (v := (u32 v0)) rfl rfl (fun _ _hx => Qn Xk rfl rfl (m90.ext _hx).h0 (Qx _ _ 0 (by simp))) <| Kv rfl rfl (fun w97 _ew97 => Qb5 (Xr rfl rfl) (Dw v0 _ _ sD sD)) <| Qj rfl rfl (fun _ _hx => Y0 rfl rfl) ?_
    refine Qj rfl rfl (fun _ _hx => Qb (v := (u32 (((v0 &&& v1) ^^^ (v0 &&& v2)) ^^^ (v1 &&& v2)))) rfl) ?_
    refine Xd (fun w100 _ew100 => ?_)
    have m100 := m90.ext _ew100
    refine Qa rfl (Xp rfl rfl) <| rA rfl rfl ?_
    refine rN (Qg (sR ?_))
    refine Qa rfl (Qc (v := (i64 7)) rfl) ?_
    refine rN (Qo ?_)
    refine Kw 8 ?_
    refine Zq (Qg (sR ?_))
    refine Qa rfl (Qb (v := (i64 7)) rfl) <| Qa rfl (W9 (a := 7) (b := 0) rfl rfl) <| rN <| Zc rfl (by decide) ?_
    refine Q7 (Qh (Qg (Qo (Qe ?_))))
    refine Qa rfl (Qb (v := (i64 7)) rfl) <| Qa rfl (Qb (v := (i64 7)) rfl) <| Qa (v := (i64 6)) rfl (Zp (a := 7) (b := 1) rfl rfl oM oM) <| Qa rfl (Qd (r := 6) (i := 6) oM Yh Zh s10 rfl oM oM) <| Qa (v := (u32 v6)) rfl (Qn Xk rfl rfl m100.h0 (Qx _ _ 0 (by simp))) <| Qa rfl (Qd (r := 7) (i := 7) oM Yh Zh s10 rfl oM oM) <| Zw (Zm (f := u32) (l' := [v0, v1, v2, v3, v4, v5, v6, v6]) rfl Z5 Zh rfl rfl m100.h0 (by simp) (.inl (Nat.zero_le _))) ?_
    rintro _ w101 uq101
    have m101 := m100.upd0 uq101
    refine Zr (Qi (Qe ?_))
    refine Qa rfl (Qb (v := (i64 7)) rfl) <| Qa (v := (i64 6)) rfl (Zp (a := 7) (b := 1) rfl rfl oM oM) <| Qa rfl (Qc (v := (i64 6)) rfl) <| rN ?_
    refine CR.abs (fun g => g 0 = vb ∧ g 2 = (ptr b2 0) ∧ g 3 = sv36 ∧ g 4 = (u64 ((BitVec.ofInt 64 (l.length : Int)) * 8#64)) ∧ g 5 = (i64 (-1)) ∧ g 6 = (ptr b6 0) ∧ g 7 = (ptr b7 0) ∧ g 8 = (i64 ((64 * m : Nat) : Int)) ∧ g 9 = (ptr b9 0) ∧ g 10 = (ptr b10 0) ∧ g 11 = (i64 (i : Int)) ∧ g 13 = (u32 ((v4 &&& v5) ^^^ ((~~~v4) &&& v6))) ∧ g 14 = (u32 (((v0 &&& v1) ^^^ (v0 &&& v2)) ^^^ (v1 &&& v2))) ∧ g 15 = (u32 ((((v7 + (((Yi v4 (6 : Int)) ^^^ (Yi v4 (11 : Int))) ^^^ (Yi v4 (25 : Int)))) + ((v4 &&& v5) ^^^ ((~~~v4) &&& v6))) + (Ud.getD i 0)) + (wn.getD i 0))) ∧ g 16 = (u32 ((((Yi v0 (2 : Int)) ^^^ (Yi v0 (13 : Int))) ^^^ (Yi v0 (22 : Int))) + (((v0 &&& v1) ^^^ (v0 &&& v2)) ^^^ (v1 &&& v2)))) ∧ g 17 = (i64 6) ∧ g 30 = (bl ((((l ++ 128#8 :: List.replicate ((119 - l.length % 64) % 64) 0#8).length : Int) % 64) != 56)) ∧ g 39 = (bl false) ∧ g 55 = (bl (decide (((64 * m : Nat) : Int) < (M.length : Int)))) ∧ g 61 = (bl (decide ((i : Int) < 64))) ∧ g 65 = (bl (decide ((i : Int) < 16))) ∧ g 201 = (bl true) ∧ True) ⟨s0, s2, s3, s4, s5, s6, s7, s8, s9, s10, s11, rfl, rfl, rfl, rfl, rfl, s30, s39, s55, s61, s65, rfl, trivial⟩ ?_
    rintro fr102 ⟨s0, s2, s3, s4, s5, s6, s7, s8, s9, s10, s11, s13, s14, s15, s16, s17, s30, s39, s55, s61, s65, s201, _⟩
    refine Zq (Qg (sR ?_))
    refine rM rfl s17 <| Qa rfl (W9 (a := 6) (b := 0) rfl rfl) <| rN <| Zc rfl (by decide) ?_
    refine Q7 (Qh (Qg (Qo (Qe ?_))))
    refine rM rfl s17 <| rM rfl s17 <| Qa (v := (i64 5)) rfl (Zp (a := 6) (b := 1) rfl rfl oM oM) <| Qa rfl (Qd (r := 5) (i := 5) oM Yh Zh s10 rfl oM oM) <| Qa (v := (u32 v5)) rfl (Qn Xk rfl rfl m101.h0 (Qx _ _ 0 (by simp))) <| Qa rfl (Qd (r := 6) (i := 6) oM Yh Zh s10 rfl oM oM) <| Zw (Zm (f := u32) (l' := [v0, v1, v2, v3, v4, v5, v5, v6]) rfl Z5 Zh rfl rfl m101.h0 (by simp) (.inl (Nat.zero_le _))) ?_
    rintro _ w103 uq103
    have m103 := m101.upd0 uq103
    refine Zr (Qi (Qe ?_))
    refine rM rfl s17 <| Qa (v := (i64 5)) rfl (Zp (a := 6) (b := 1) rfl rfl oM oM) <| Qa rfl (Qc (v := (i64 5)) rfl) ?_
    refine rN (Zq (Qg (sR ?_)))
    refine Qa rfl (Qb (v := (i64 5)) rfl) <| Qa rfl (W9 (a := 5) (b := 0) rfl rfl) <| rN <| Zc rfl (by decide) ?_
    refine Q7 (Qh (Qg (Qo (Qe ?_))))
    refine Qa rfl (Qb (v := (i64 5)) rfl) <| Qa rfl (Qb (v := (i64 5)) rfl) <| Qa (v := (i64 4)) rfl (Zp (a := 5) (b := 1) rfl rfl oM oM) <| Qa rfl (Qd (r := 4) (i := 4) oM Yh Zh s10 rfl oM oM) <| Qa (v := (u32 v4)) rfl (Qn Xk rfl rfl m103.h0 (Qx _ _ 0 (by simp))) <| Qa rfl (Qd (r := 5) (i := 5) oM Yh Zh s10 rfl oM oM) <| Zw (Zm (f := u32) (l' := [v0, v1, v2, v3, v4, v4, v5, v6]) rfl Z5 Zh rfl rfl m103.h0 (by simp) (.inl (Nat.zero_le _))) ?_
    rintro _ w104 uq104
    have m104 := m103.upd0 uq104
    refine Zr (Qi (Qe ?_))
    refine Qa rfl (Qb (v := (i64 5)) rfl) <| Qa (v := (i64 4)) rfl (Zp (a := 5) (b := 1) rfl rfl oM oM) <| Qa rfl (Qc (v := (i64 4)) rfl) ?_
    refine rN (Zq (Qg (sR ?_)))
    refine Qa rfl (Qb (v := (i64 4)) rfl) <| Qa rfl (W9 (a := 4) (b := 0) rfl rfl) <| rN <| Zc rfl (by decide) ?_
    refine Q7 (Qh (Qg (Qo (Qe ?_))))
    refine Qa rfl (Qb (v := (i64 4)) rfl) <| Qa rfl (Qb (v := (i64 4)) rfl) <| Qa (v := (i64 3)) rfl (Zp (a := 4) (b := 1) rfl rfl oM oM) <| Qa rfl (Qd (r := 3) (i := 3) oM Yh Zh s10 rfl oM oM) <| Qa (v := (u32 v3)) rfl (Qn Xk rfl rfl m104.h0 (Qx _ _ 0 (by simp))) <| Qa rfl (Qd (r := 4) (i := 4) oM Yh Zh s10 rfl oM oM) <| Zw (Zm (f := u32) (l' := [v0, v1, v2, v3, v3, v4, v5, v6]) rfl Z5 Zh rfl rfl m104.h0 (by simp) (.inl (Nat.zero_le _))) ?_
    rintro _ w105 uq105
    have m105 := m104.upd0 uq105
    refine Zr (Qi (Qe ?_))
    refine Qa rfl (Qb (v := (i64 4)) rfl) <| Qa (v := (i64 3)) rfl (Zp (a := 4) (b := 1) rfl rfl oM oM) <| Qa rfl (Qc (v := (i64 3)) rfl) ?_
    refine rN (Zq (Qg (sR ?_)))
    refine Qa rfl (Qb (v := (i64 3)) rfl) <| Qa rfl (W9 (a := 3) (b := 0) rfl rfl) <| rN <| Zc rfl (by decide) ?_
    refine Q7 (Qh (Qg (Qo (Qe ?_))))
    refine Qa rfl (Qb (v := (i64 3)) rfl) <| Qa rfl (Qb (v := (i64 3)) rfl) <| Qa (v := (i64 2)) rfl (Zp (a := 3) (b := 1) rfl rfl oM oM) <| Qa rfl (Qd (r := 2) (i := 2) oM Yh Zh s10 rfl oM oM) <| Qa (v := (u32 v2)) rfl (Qn Xk rfl rfl m105.h0 (Qx _ _ 0 (by simp))) <| Qa rfl (Qd (r := 3) (i := 3) oM Yh Zh s10 rfl oM oM) <| Zw (Zm (f := u32) (l' := [v0, v1, v2, v2, v3, v4, v5, v6]) rfl Z5 Zh rfl rfl m105.h0 (by simp) (.inl (Nat.zero_le _))) ?_
    rintro _ w106 uq106
    have m106 := m105.upd0 uq106
    refine Zr (Qi (Qe ?_))
    refine Qa rfl (Qb (v := (i64 3)) rfl) <| Qa (v := (i64 2)) rfl (Zp (a := 3) (b := 1) rfl rfl oM oM) <| Qa rfl (Qc (v := (i64 2)) rfl) ?_
    refine rN (Zq (Qg (sR ?_)))
    refine Qa rfl (Qb (v := (i64 2)) rfl) <| Qa rfl (W9 (a := 2) (b := 0) rfl rfl) <| rN <| Zc rfl (by decide) ?_
    refine Q7 (Qh (Qg (Qo (Qe ?_))))
    refine Qa rfl (Qb (v := (i64 2)) rfl) <| Qa rfl (Qb (v := (i64 2)) rfl) <| Qa (v := (i64 1)) rfl (Zp (a := 2) (b := 1) rfl rfl oM oM) <| Qa rfl (Qd (r := 1) (i := 1) oM Yh Zh s10 rfl oM oM) <| Qa (v := (u32 v1)) rfl (Qn Xk rfl rfl m106.h0 (Qx _ _ 0 (by simp))) <| Qa rfl (Qd (r := 2) (i := 2) oM Yh Zh s10 rfl oM oM) <| Zw (Zm (f := u32) (l' := [v0, v1, v1, v2, v3, v4, v5, v6]) rfl Z5 Zh rfl rfl m106.h0 (by simp) (.inl (Nat.zero_le _))) ?_
    rintro _ w107 uq107
    have m107 := m106.upd0 uq107
    refine Zr (Qi (Qe ?_))
    refine Qa rfl (Qb (v := (i64 2)) rfl) <| Qa (v := (i64 1)) rfl (Zp (a := 2) (b := 1) rfl rfl oM oM) <| Qa rfl (Qc (v := (i64 1)) rfl) ?_
    refine rN (Zq (Qg (sR ?_)))
    refine Qa rfl (Qb (v := (i64 1)) rfl) <| Qa rfl (W9 (a := 1) (b := 0) rfl rfl) <| rN <| Zc rfl (by decide) ?_
    refine Q7 (Qh (Qg (Qo (Qe ?_))))
    refine Qa rfl (Qb (v := (i64 1)) rfl) <| Qa rfl (Qb (v := (i64 1)) rfl) <| Qa (v := (i64 0)) rfl (Zp (a := 1) (b := 1) rfl rfl oM oM) <| Qa rfl (Qd (r := 0) (i := 0) oM Yh Zh s10 rfl oM oM) <| Qa (v := (u32 v0)) rfl (Qn Xk rfl rfl m107.h0 (Qx _ _ 0 (by simp))) <| Qa rfl (Qd (r := 1) (i := 1) oM Yh Zh s10 rfl oM oM) <| Zw (Zm (f := u32) (l' := [v0, v0, v1, v2, v3, v4, v5, v6]) rfl Z5 Zh rfl rfl m107.h0 (by simp) (.inl (Nat.zero_le _))) ?_
    rintro _ w108 uq108
    have m108 := m107.upd0 uq108
    refine Zr (Qi (Qe ?_))
    refine Qa rfl (Qb (v := (i64 1)) rfl) <| Qa (v := (i64 0)) rfl (Zp (a := 1) (b := 1) rfl rfl oM oM) <| Qa rfl (Qc (v := (i64 0)) rfl) ?_
    refine rN (Zq (Qg (sR ?_)))
    refine Qa rfl (Qb (v := (i64 0)) rfl) <| Qa rfl (W9 (a := 0) (b := 0) rfl rfl) <| rN <| Yp rfl (by decide) <| X0 ?_
    refine Qr (Qr (Xf ?_))
    refine sR <| Qa rfl (Qd (r := 4) (i := 4) oM Yh Zh s10 rfl oM oM) <| Qa (v := (u32 v3)) rfl (Qn Xk rfl rfl m108.h0 (Qx _ _ 0 (by simp))) <| rM rfl s15 <| Qa rfl (Xp rfl rfl) <| Qa rfl (Qd (r := 4) (i := 4) oM Yh Zh s10 rfl oM oM) <| Zw (Zm (f := u32) (l' := [v0, v0, v1, v2, v3 + ((((v7 + (((Yi v4 (6 : Int)) ^^^ (Yi v4 (11 : Int))) ^^^ (Yi v4 (25 : Int)))) + ((v4 &&& v5) ^^^ ((~~~v4) &&& v6))) + (Ud.getD i 0)) + (wn.getD i 0)), v4, v5, v6]) rfl Z5 Zh rfl rfl m108.h0 (by simp) (.inl (Nat.zero_le _))) ?_
    rintro _ w109 uq109
    have m109 := m108.upd0 uq109
    refine rN (Qe ?_)
    refine rM rfl s15 <| rM rfl s16 <| Qa rfl (Xp rfl rfl) <| Qa rfl (Qd (r := 0) (i := 0) oM Yh Zh s10 rfl oM oM) <| Zw (Zm (f := u32) (l' := [((((v7 + (((Yi v4 (6 : Int)) ^^^ (Yi v4 (11 : Int))) ^^^ (Yi v4 (25 : Int)))) + ((v4 &&& v5) ^^^ ((~~~v4) &&& v6))) + (Ud.getD i 0)) + (wn.getD i 0)) + ((((Yi v0 (2 : Int)) ^^^ (Yi v0 (13 : Int))) ^^^ (Yi v0 (22 : Int))) + (((v0 &&& v1) ^^^ (v0 &&& v2)) ^^^ (v1 &&& v2))), v0, v1, v2, v3 + ((((v7 + (((Yi v4 (6 : Int)) ^^^ (Yi v4 (11 : Int))) ^^^ (Yi v4 (25 : Int)))) + ((v4 &&& v5) ^^^ ((~~~v4) &&& v6))) + (Ud.getD i 0)) + (wn.getD i 0)), v4, v5, v6]) rfl Z5 Zh rfl rfl m109.h0 (by simp) (.inl (Nat.zero_le _))) ?_
    rintro _ w110 uq110
    have m110 := m109.upd0 uq110
    refine Zr (Qi (Qe ?_))
    refine rM rfl s11 <| Qa rfl (Qk (b := 1) rfl rfl oM oM) <| Qa rfl (Qc (v := (i64 ((i : Int) + 1))) rfl) <| rN ?_
    have hwi : wn.getD i 0 = (Uz ((M.drop (64 * m)).take 64)).getD i 0 := by rw [hwn]; exact Qjm ((M.drop (64 * m)).take 64) i oM
    have hvn : [((((v7 + (((Yi v4 (6 : Int)) ^^^ (Yi v4 (11 : Int))) ^^^ (Yi v4 (25 : Int)))) + ((v4 &&& v5) ^^^ ((~~~v4) &&& v6))) + (Ud.getD i 0)) + (wn.getD i 0)) + ((((Yi v0 (2 : Int)) ^^^ (Yi v0 (13 : Int))) ^^^ (Yi v0 (22 : Int))) + (((v0 &&& v1) ^^^ (v0 &&& v2)) ^^^ (v1 &&& v2))), v0, v1, v2, v3 + ((((v7 + (((Yi v4 (6 : Int)) ^^^ (Yi v4 (11 : Int))) ^^^ (Yi v4 (25 : Int)))) + ((v4 &&& v5) ^^^ ((~~~v4) &&& v6))) + (Ud.getD i 0)) + (wn.getD i 0)), v4, v5, v6] = Nh (Uz ((M.drop (64 * m)).take 64)) (i + 1) [h0, h1, h2, h3, h4, h5, h6, h7] := by
     rw [Qjt, ← hv, ← hwi]; exact rndR _ _ _ _ _ _ _ _ _ _
    exact ⟨⟨i + 1, wn, (((((v7 + (((Yi v4 (6 : Int)) ^^^ (Yi v4 (11 : Int))) ^^^ (Yi v4 (25 : Int)))) + ((v4 &&& v5) ^^^ ((~~~v4) &&& v6))) + (Ud.getD i 0)) + (wn.getD i 0)) + ((((Yi v0 (2 : Int)) ^^^ (Yi v0 (13 : Int))) ^^^ (Yi v0 (22 : Int))) + (((v0 &&& v1) ^^^ (v0 &&& v2)) ^^^ (v1 &&& v2)))), v0, v1, v2, (v3 + ((((v7 + (((Yi v4 (6 : Int)) ^^^ (Yi v4 (11 : Int))) ^^^ (Yi v4 (25 : Int)))) + ((v4 &&& v5) ^^^ ((~~~v4) &&& v6))) + (Ud.getD i 0)) + (wn.getD i 0))), v4, v5, v6, oM, hwn, hvn, s0, s2, s3, s4, s5, s6, s7, s8, s9, s10, rfl, s30, s39, s55, m110⟩, Gl rfl z11 oM oM⟩
   ·
    have hc54p := of_decide_eq_false hc54
    obtain rfl : i = 64 := by omega
    refine X0 ?_
    refine Qr (Qr (Xf ?_))
    refine sR <| Qa rfl (Qc (v := (i64 0)) rfl) ?_
    refine rN (Vq ?_)
    refine Kw 9 ?_
    refine Zq (Qg (sR ?_))
    refine Qa rfl (Qb (v := (i64 0)) rfl) <| Qa rfl (Qs (a := 0) (b := 8) rfl rfl) <| rN <| Zc rfl (by decide) ?_
    refine Q7 (Qh (Qg (Qo ?_)))
    refine Xq (dl 6) 6 (by kernel_rfl) <| Qj rfl rfl (fun _ _hx => Qb (v := (i64 0)) rfl) <| Qj rfl rfl (fun _ _hx => Qd (r := 0) (i := 0) oM Yh Zh s7 rfl oM oM) <| Qj (v := (u32 h0)) rfl rfl (fun _ _hx => Qn Xk rfl rfl (m53.ext _hx).h2 (Qx _ _ 0 (by simp))) <| Qj rfl rfl (fun _ _hx => Qb (v := (i64 0)) rfl) <| Qj rfl rfl (fun _ _hx => Qd (r := 0) (i := 0) oM Yh Zh s10 rfl oM oM) <| Qj (v := (u32 v0)) rfl rfl (fun _ _hx => Qn Xk rfl rfl (m53.ext _hx).h0 (Qx _ _ 0 (by simp))) ?_
    refine Xd (fun w111 _ew111 => ?_)
    have m111 := m53.ext _ew111
    refine Qa rfl (Xp rfl rfl) <| Qa rfl (Qd (r := 0) (i := 0) oM Yh Zh s7 rfl oM oM) <| Zw (Zm (f := u32) (l' := [h0 + v0, h1, h2, h3, h4, h5, h6, h7]) rfl Z5 Zh rfl rfl m111.h2 (by simp) (.inl (Nat.zero_le _))) ?_
    rintro _ w112 uq112
    have m112 := m111.upd2 uq112
    refine Zr (Qi (Qe ?_))
    refine Qa rfl (Qb (v := (i64 0)) rfl) <| Qa (v := (i64 1)) rfl (Qk (a := 0) (b := 1) rfl rfl oM oM) <| Qa rfl (Qc (v := (i64 1)) rfl) ?_
    refine rN (Zq (Qg (sR ?_)))
    refine Qa rfl (Qb (v := (i64 1)) rfl) <| Qa rfl (Qs (a := 1) (b := 8) rfl rfl) <| rN <| Zc rfl (by decide) ?_
    refine Q7 (Qh (Qg (Qo ?_)))
    refine Xq (dl 6) 6 (by kernel_rfl) <| Qj rfl rfl (fun _ _hx => Qb (v := (i64 1)) rfl) <| Qj rfl rfl (fun _ _hx => Qd (r := 1) (i := 1) oM Yh Zh s7 rfl oM oM) <| Qj (v := (u32 h1)) rfl rfl (fun _ _hx => Qn Xk rfl rfl (m112.ext _hx).h2 (Qx _ _ 0 (by simp))) <| Qj rfl rfl (fun _ _hx => Qb (v := (i64 1)) rfl) <| Qj rfl rfl (fun _ _hx => Qd (r := 1) (i := 1) oM Yh Zh s10 rfl oM oM) <| Qj (v := (u32 v1)) rfl rfl (fun _ _hx => Qn Xk rfl rfl (m112.ext _hx).h0 (Qx _ _ 0 (by simp))) ?_
    refine Xd (fun w113 _ew113 => ?_)
    have m113 := m112.ext _ew113
    refine Qa rfl (Xp rfl rfl) <| Qa rfl (Qd (r := 1) (i := 1) oM Yh Zh s7 rfl oM oM) <| Zw (Zm (f := u32) (l' := [h0 + v0, h1 + v1, h2, h3, h4, h5, h6, h7]) rfl Z5 Zh rfl rfl m113.h2 (by simp) (.inl (Nat.zero_le _))) ?_
    rintro _ w114 uq114
    have m114 := m113.upd2 uq114
    refine Zr (Qi (Qe ?_))
    refine Qa rfl (Qb (v := (i64 1)) rfl) <| Qa (v := (i64 2)) rfl (Qk (a := 1) (b := 1) rfl rfl oM oM) <| Qa rfl (Qc (v := (i64 2)) rfl) ?_
    refine rN (Zq (Qg (sR ?_)))
    refine Qa rfl (Qb (v := (i64 2)) rfl) <| Qa rfl (Qs (a := 2) (b := 8) rfl rfl) <| rN <| Zc rfl (by decide) ?_
    refine Q7 (Qh (Qg (Qo ?_)))
    refine Xq (dl 6) 6 (by kernel_rfl) <| Qj rfl rfl (fun _ _hx => Qb (v := (i64 2)) rfl) <| Qj rfl rfl (fun _ _hx => Qd (r := 2) (i := 2) oM Yh Zh s7 rfl oM oM) <| Qj (v := (u32 h2)) rfl rfl (fun _ _hx => Qn Xk rfl rfl (m114.ext _hx).h2 (Qx _ _ 0 (by simp))) <| Qj rfl rfl (fun _ _hx => Qb (v := (i64 2)) rfl) <| Qj rfl rfl (fun _ _hx => Qd (r := 2) (i := 2) oM Yh Zh s10 rfl oM oM) <| Qj (v := (u32 v2)) rfl rfl (fun _ _hx => Qn Xk rfl rfl (m114.ext _hx).h0 (Qx _ _ 0 (by simp))) ?_
    refine Xd (fun w115 _ew115 => ?_)
    have m115 := m114.ext _ew115
    refine Qa rfl (Xp rfl rfl) <| Qa rfl (Qd (r := 2) (i := 2) oM Yh Zh s7 rfl oM oM) <| Zw (Zm (f := u32) (l' := [h0 + v0, h1 + v1, h2 + v2, h3, h4, h5, h6, h7]) rfl Z5 Zh rfl rfl m115.h2 (by simp) (.inl (Nat.zero_le _))) ?_
    rintro _ w116 uq116
    have m116 := m115.upd2 uq116
    refine Zr (Qi (Qe ?_))
    refine Qa rfl (Qb (v := (i64 2)) rfl) <| Qa (v := (i64 3)) rfl (Qk (a := 2) (b := 1) rfl rfl oM oM) <| Qa rfl (Qc (v := (i64 3)) rfl) ?_
    refine rN (Zq (Qg (sR ?_)))
    refine Qa rfl (Qb (v := (i64 3)) rfl) <| Qa rfl (Qs (a := 3) (b := 8) rfl rfl) <| rN <| Zc rfl (by decide) ?_
    refine Q7 (Qh (Qg (Qo ?_)))
    refine Xq (dl 6) 6 (by kernel_rfl) <| Qj rfl rfl (fun _ _hx => Qb (v := (i64 3)) rfl) <| Qj rfl rfl (fun _ _hx => Qd (r := 3) (i := 3) oM Yh Zh s7 rfl oM oM) <| Qj (v := (u32 h3)) rfl rfl (fun _ _hx => Qn Xk rfl rfl (m116.ext _hx).h2 (Qx _ _ 0 (by simp))) <| Qj rfl rfl (fun _ _hx => Qb (v := (i64 3)) rfl) <| Qj rfl rfl (fun _ _hx => Qd (r := 3) (i := 3) oM Yh Zh s10 rfl oM oM) <| Qj (v := (u32 v3)) rfl rfl (fun _ _hx => Qn Xk rfl rfl (m116.ext _hx).h0 (Qx _ _ 0 (by simp))) ?_
    refine Xd (fun w117 _ew117 => ?_)
    have m117 := m116.ext _ew117
    refine Qa rfl (Xp rfl rfl) <| Qa rfl (Qd (r := 3) (i := 3) oM Yh Zh s7 rfl oM oM) <| Zw (Zm (f := u32) (l' := [h0 + v0, h1 + v1, h2 + v2, h3 + v3, h4, h5, h6, h7]) rfl Z5 Zh rfl rfl m117.h2 (by simp) (.inl (Nat.zero_le _))) ?_
    rintro _ w118 uq118
    have m118 := m117.upd2 uq118
    refine Zr (Qi (Qe ?_))
    refine Qa rfl (Qb (v := (i64 3)) rfl) <| Qa (v := (i64 4)) rfl (Qk (a := 3) (b := 1) rfl rfl oM oM) <| Qa rfl (Qc (v := (i64 4)) rfl) ?_
    refine rN (Zq (Qg (sR ?_)))
    refine Qa rfl (Qb (v := (i64 4)) rfl) <| Qa rfl (Qs (a := 4) (b := 8) rfl rfl) <| rN <| Zc rfl (by decide) ?_
    refine Q7 (Qh (Qg (Qo ?_)))
    refine Xq (dl 6) 6 (by kernel_rfl) <| Qj rfl rfl (fun _ _hx => Qb (v := (i64 4)) rfl) <| Qj rfl rfl (fun _ _hx => Qd (r := 4) (i := 4) oM Yh Zh s7 rfl oM oM) <| Qj (v := (u32 h4)) rfl rfl (fun _ _hx => Qn Xk rfl rfl (m118.ext _hx).h2 (Qx _ _ 0 (by simp))) <| Qj rfl rfl (fun _ _hx => Qb (v := (i64 4)) rfl) <| Qj rfl rfl (fun _ _hx => Qd (r := 4) (i := 4) oM Yh Zh s10 rfl oM oM) <| Qj (v := (u32 v4)) rfl rfl (fun _ _hx => Qn Xk rfl rfl (m118.ext _hx).h0 (Qx _ _ 0 (by simp))) ?_
    refine Xd (fun w119 _ew119 => ?_)
    have m119 := m118.ext _ew119
    refine Qa rfl (Xp rfl rfl) <| Qa rfl (Qd (r := 4) (i := 4) oM Yh Zh s7 rfl oM oM) <| Zw (Zm (f := u32) (l' := [h0 + v0, h1 + v1, h2 + v2, h3 + v3, h4 + v4, h5, h6, h7]) rfl Z5 Zh rfl rfl m119.h2 (by simp) (.inl (Nat.zero_le _))) ?_
    rintro _ w120 uq120
    have m120 := m119.upd2 uq120
    refine Zr (Qi (Qe ?_))
    refine Qa rfl (Qb (v := (i64 4)) rfl) <| Qa (v := (i64 5)) rfl (Qk (a := 4) (b := 1) rfl rfl oM oM) <| Qa rfl (Qc (v := (i64 5)) rfl) ?_
    refine rN (Zq (Qg (sR ?_)))
    refine Qa rfl (Qb (v := (i64 5)) rfl) <| Qa rfl (Qs (a := 5) (b := 8) rfl rfl) <| rN <| Zc rfl (by decide) ?_
    refine Q7 (Qh (Qg (Qo ?_)))
    refine Xq (dl 6) 6 (by kernel_rfl) <| Qj rfl rfl (fun _ _hx => Qb (v := (i64 5)) rfl) <| Qj rfl rfl (fun _ _hx => Qd (r := 5) (i := 5) oM Yh Zh s7 rfl oM oM) <| Qj (v := (u32 h5)) rfl rfl (fun _ _hx => Qn Xk rfl rfl (m120.ext _hx).h2 (Qx _ _ 0 (by simp))) <| Qj rfl rfl (fun _ _hx => Qb (v := (i64 5)) rfl) <| Qj rfl rfl (fun _ _hx => Qd (r := 5) (i := 5) oM Yh Zh s10 rfl oM oM) <| Qj (v := (u32 v5)) rfl rfl (fun _ _hx => Qn Xk rfl rfl (m120.ext _hx).h0 (Qx _ _ 0 (by simp))) ?_
    refine Xd (fun w121 _ew121 => ?_)
    have m121 := m120.ext _ew121
    refine Qa rfl (Xp rfl rfl) <| Qa rfl (Qd (r := 5) (i := 5) oM Yh Zh s7 rfl oM oM) <| Zw (Zm (f := u32) (l' := [h0 + v0, h1 + v1, h2 + v2, h3 + v3, h4 + v4, h5 + v5, h6, h7]) rfl Z5 Zh rfl rfl m121.h2 (by simp) (.inl (Nat.zero_le _))) ?_
    rintro _ w122 uq122
    have m122 := m121.upd2 uq122
    refine Zr (Qi (Qe ?_))
    refine Qa rfl (Qb (v := (i64 5)) rfl) <| Qa (v := (i64 6)) rfl (Qk (a := 5) (b := 1) rfl rfl oM oM) <| Qa rfl (Qc (v := (i64 6)) rfl) <| rN ?_
    refine CR.abs (fun g => g 0 = vb ∧ g 2 = (ptr b2 0) ∧ g 3 = sv36 ∧ g 4 = (u64 ((BitVec.ofInt 64 (l.length : Int)) * 8#64)) ∧ g 5 = (i64 (-1)) ∧ g 6 = (ptr b6 0) ∧ g 7 = (ptr b7 0) ∧ g 8 = (i64 ((64 * m : Nat) : Int)) ∧ g 9 = (ptr b9 0) ∧ g 10 = (ptr b10 0) ∧ g 11 = (i64 (64 : Int)) ∧ g 18 = (i64 6) ∧ g 30 = (bl ((((l ++ 128#8 :: List.replicate ((119 - l.length % 64) % 64) 0#8).length : Int) % 64) != 56)) ∧ g 39 = (bl false) ∧ g 55 = (bl (decide (((64 * m : Nat) : Int) < (M.length : Int)))) ∧ g 61 = (bl (decide ((64 : Int) < 64))) ∧ g 220 = (bl true) ∧ True) ⟨s0, s2, s3, s4, s5, s6, s7, s8, s9, s10, s11, rfl, s30, s39, s55, rfl, rfl, trivial⟩ ?_
    rintro fr123 ⟨s0, s2, s3, s4, s5, s6, s7, s8, s9, s10, s11, s18, s30, s39, s55, s61, s220, _⟩
    refine Zq (Qg (sR ?_))
    refine rM rfl s18 <| Qa rfl (Qs (a := 6) (b := 8) rfl rfl) <| rN <| Zc rfl (by decide) ?_
    refine Q7 (Qh (Qg (Qo ?_)))
    refine Xq (dl 6) 6 (by kernel_rfl) <| dM rfl rfl s18 <| Qj rfl rfl (fun _ _hx => Qd (r := 6) (i := 6) oM Yh Zh s7 rfl oM oM) <| Qj (v := (u32 h6)) rfl rfl (fun _ _hx => Qn Xk rfl rfl (m122.ext _hx).h2 (Qx _ _ 0 (by simp))) <| dM rfl rfl s18 <| Qj rfl rfl (fun _ _hx => Qd (r := 6) (i := 6) oM Yh Zh s10 rfl oM oM) <| Qj (v := (u32 v6)) rfl rfl (fun _ _hx => Qn Xk rfl rfl (m122.ext _hx).h0 (Qx _ _ 0 (by simp))) ?_
    refine Xd (fun w124 _ew124 => ?_)
    have m124 := m122.ext _ew124
    refine Qa rfl (Xp rfl rfl) <| Qa rfl (Qd (r := 6) (i := 6) oM Yh Zh s7 rfl oM oM) <| Zw (Zm (f := u32) (l' := [h0 + v0, h1 + v1, h2 + v2, h3 + v3, h4 + v4, h5 + v5, h6 + v6, h7]) rfl Z5 Zh rfl rfl m124.h2 (by simp) (.inl (Nat.zero_le _))) ?_
    rintro _ w125 uq125
    have m125 := m124.upd2 uq125
    refine Zr (Qi (Qe ?_))
    refine rM rfl s18 <| Qa (v := (i64 7)) rfl (Qk (a := 6) (b := 1) rfl rfl oM oM) <| Qa rfl (Qc (v := (i64 7)) rfl) ?_
    refine rN (Zq (Qg (sR ?_)))
    refine Qa rfl (Qb (v := (i64 7)) rfl) <| Qa rfl (Qs (a := 7) (b := 8) rfl rfl) <| rN <| Zc rfl (by decide) ?_
    refine Q7 (Qh (Qg (Qo ?_)))
    refine Xq (dl 6) 6 (by kernel_rfl) <| Qj rfl rfl (fun _ _hx => Qb (v := (i64 7)) rfl) <| Qj rfl rfl (fun _ _hx => Qd (r := 7) (i := 7) oM Yh Zh s7 rfl oM oM) <| Qj (v := (u32 h7)) rfl rfl (fun _ _hx => Qn Xk rfl rfl (m125.ext _hx).h2 (Qx _ _ 0 (by simp))) <| Qj rfl rfl (fun _ _hx => Qb (v := (i64 7)) rfl) <| Qj rfl rfl (fun _ _hx => Qd (r := 7) (i := 7) oM Yh Zh s10 rfl oM oM) <| Qj (v := (u32 v7)) rfl rfl (fun _ _hx => Qn Xk rfl rfl (m125.ext _hx).h0 (Qx _ _ 0 (by simp))) ?_
    refine Xd (fun w126 _ew126 => ?_)
    have m126 := m125.ext _ew126
    refine Qa rfl (Xp rfl rfl) <| Qa rfl (Qd (r := 7) (i := 7) oM Yh Zh s7 rfl oM oM) <| Zw (Zm (f := u32) (l' := [h0 + v0, h1 + v1, h2 + v2, h3 + v3, h4 + v4, h5 + v5, h6 + v6, h7 + v7]) rfl Z5 Zh rfl rfl m126.h2 (by simp) (.inl (Nat.zero_le _))) ?_
    rintro _ w127 uq127
    have m127 := m126.upd2 uq127
    refine Zr (Qi (Qe ?_))
    refine Qa rfl (Qb (v := (i64 7)) rfl) <| Qa (v := (i64 8)) rfl (Qk (a := 7) (b := 1) rfl rfl oM oM) <| Qa rfl (Qc (v := (i64 8)) rfl) ?_
    refine rN (Zq (Qg (sR ?_)))
    refine Qa rfl (Qb (v := (i64 8)) rfl) <| Qa rfl (Qs (a := 8) (b := 8) rfl rfl) <| rN <| Yp rfl (by decide) <| X0 ?_
    refine Qr (Qr (Xf ?_))
    refine Qi (Qe ?_)
    refine rM rfl s8 <| Qa rfl (Qk (b := 64) rfl rfl oM oM) <| Qa rfl (Qc (v := (i64 (((64 * m : Nat) : Int) + 64))) rfl) <| rN ?_
    have hhn : [h0 + v0, h1 + v1, h2 + v2, h3 + v3, h4 + v4, h5 + v5, h6 + v6, h7 + v7] = hAt Tf M (m + 1) := by rw [hAt_succ, ← hh, Qed, ← hv]; rfl
    have m128 := Mem.drop [_] _ m127
    have m129 := Mem.drop [_] _ m128
    exact ⟨⟨m + 1, (h0 + v0), (h1 + v1), (h2 + v2), (h3 + v3), (h4 + v4), (h5 + v5), (h6 + v6), (h7 + v7), oM, hhn, s0, s2, s3, s4, s5, s6, s7, (by show i64 _ = i64 _; congr 1), s30, s39, m129⟩, Gl (by show i64 _ = i64 _; congr 1) z8 (a' := ((64 * (m + 1) : Nat) : Int)) oM oM⟩
  ·
   have hc47p := of_decide_eq_false hc47
   obtain rfl : m = M.length / 64 := by omega
   refine X0 ?_
   refine Qr (Qr (Xf ?_))
   refine sR <| Qa rfl (Jp (ps := []) (c := (cl u8 (List.replicate 32 0))) Z9 X3 X6 (by simp) rfl) <| Za rfl (Zg m46 Z9) ?_
   rintro _ w130 ⟨b19, rfl, _ew130, m130⟩
   refine Zw (Qm (f := u8) (l := List.replicate 32 0) Qu Z9 rfl rfl sD m130.h0 sZ rfl) ?_
   rintro _ w131 uq131
   have m131 := m130.upd0 uq131
   refine rN (Qg (sR ?_))
   refine Qa rfl (Qc (v := (i64 0)) rfl) ?_
   refine rN (Qo ?_)
   refine Yo (fun g wv => ∃ (e : Nat), (e ≤ 32) ∧ g 0 = vb ∧ g 2 = (ptr b2 0) ∧ g 3 = sv36 ∧ g 4 = (u64 ((BitVec.ofInt 64 (l.length : Int)) * 8#64)) ∧ g 5 = (i64 (-1)) ∧ g 6 = (ptr b6 0) ∧ g 7 = (ptr b7 0) ∧ g 8 = (i64 ((64 * (M.length / 64) : Nat) : Int)) ∧ g 19 = (ptr b19 0) ∧ g 20 = (i64 (e : Int)) ∧ g 30 = (bl ((((l ++ 128#8 :: List.replicate ((119 - l.length % 64) % 64) 0#8).length : Int) % 64) != 56)) ∧ g 39 = (bl false) ∧ g 55 = (bl (decide (((64 * (M.length / 64) : Nat) : Int) < (M.length : Int)))) ∧ Mem wv (Qy w0) ([(b19, .cells (cl u8 (Yk (fun q => ([h0, h1, h2, h3, h4, h5, h6, h7].getD (q / 4) 0 >>> (24 - 8 * (q % 4))).setWidth 8) 0 32 e)) 23 (0, 0)), (b7, .cells (cl u32 ([h0, h1, h2, h3, h4, h5, h6, h7])) 152 (0, 0)), (b6, .cells (cl u32 Ud) 160 (0, 0))] ++ (Hs36 ++ ([(b2, .cells (cl u8 (List.replicate 32 0)) 23 (0, 0))])))) (fun g wv => (32 - RowKit.intOf (g 20)).toNat) ?_ ?_
   ·exact ⟨0, oM, s0, s2, s3, s4, s5, s6, s7, s8, rfl, rfl, s30, s39, rfl, (by rw [Fa]; exact m131)⟩
   rintro fr132 w133 ⟨e, he, s0, s2, s3, s4, s5, s6, s7, s8, s19, s20, s30, s39, s55, m133⟩
   have z20 := s20
   have hfl : (Yk (fun q => ([h0, h1, h2, h3, h4, h5, h6, h7].getD (q / 4) 0 >>> (24 - 8 * (q % 4))).setWidth 8) (0 : BitVec 8) 32 e).length = 32 := Jl _ _ _ _ he
   refine Qg (sR ?_)
   refine rM rfl s20 <| Qa rfl (Qs (b := 32) rfl rfl) <| rN ?_
   refine Xv rfl (fun hc134 => ?_) (fun hc134 => ?_)
   ·
    have hc134p := of_decide_eq_true hc134
    refine Q7 (Qh (Qg (Qo (Qe ?_))))
    refine rM rfl s20 <| rM rfl s20 <| Qa rfl (Jf.cast (congrArg i64 (show (e : Int) / 4 = ((e / 4 : Nat) : Int) by omega)) (Wy (b := 4) rfl rfl oM oM oM)) <| Qa rfl (Qd (r := (e / 4)) oM Yh Zh s7 rfl oM sD) <| Qa (v := (u32 (([h0, h1, h2, h3, h4, h5, h6, h7]).getD (e / 4) 0))) rfl (Qn Xk rfl rfl m133.h1 (Qx _ _ 0 sD)) <| rM rfl s20 <| Qa rfl (Jy (b := 4) rfl rfl oM oM oM) <| Qa rfl (Z7 (a := 8) rfl rfl oM oM) <| Qa rfl (Jf.cast (congrArg i64 (show 24 - (8 * ((e : Int) % 4)) = ((24 - 8 * (e % 4) : Nat) : Int) by omega)) (Zp (a := 24) rfl rfl oM oM)) <| Qa rfl (V8 rfl rfl oM) <| Qa rfl (Ua ⟨_, Xk⟩ Vm rfl) <| Qa rfl (Qd (r := e) oM X3 X6 s19 rfl oM sD) ?_
    refine Zw (Xn (f := u8) (a := ((([h0, h1, h2, h3, h4, h5, h6, h7]).getD (e / 4) 0) >>> ((24 - 8 * (e % 4) : Nat) : Int).toNat).setWidth 8) Qu X6 rfl rfl m133.h0 sD (.inl (Nat.zero_le _))) ?_
    rintro _ w135 uq135
    have m135 := m133.upd0 uq135
    refine Zr (Qi (Qe ?_))
    refine rM rfl s20 <| Qa rfl (Qk (b := 1) rfl rfl oM oM) <| Qa rfl (Qc (v := (i64 ((e : Int) + 1))) rfl) <| rN ?_
    exact ⟨⟨e + 1, oM, s0, s2, s3, s4, s5, s6, s7, s8, s19, rfl, s30, s39, s55, (by rw [← Fh (fun q => ([h0, h1, h2, h3, h4, h5, h6, h7].getD (q / 4) 0 >>> (24 - 8 * (q % 4))).setWidth 8) (0 : BitVec 8) (n := 32) (k := e) oM _ rfl]; exact m135)⟩, Gl rfl z20 oM oM⟩
   ·
    have hc134p := of_decide_eq_false hc134
    obtain rfl : e = 32 := by omega
    have hfl := Jl (fun q => ([h0, h1, h2, h3, h4, h5, h6, h7].getD (q / 4) 0 >>> (24 - 8 * (q % 4))).setWidth 8) (0 : BitVec 8) 32 32 oM
    refine X0 ?_
    refine Qr (Qr (Xf ?_))
    refine sR <| Qa rfl (Qw X3 rfl Z9 s19 m133.h0 sZ) <| Zw (Qm (f := u8) (l := Yk (fun q => ([h0, h1, h2, h3, h4, h5, h6, h7].getD (q / 4) 0 >>> (24 - 8 * (q % 4))).setWidth 8) 0 32 32) Qu Z9 s2 rfl sD ((Mem.pick2 [_, _, _] Hs36 [_] _ m133)).h0 sZ rfl) ?_
    rintro _ w136 uq136
    have m136 : Mem _ _ ([_, _, _, _] ++ (Hs36 ++ ([]))) := Mem.upd0 (Mem.pick2 [_, _, _] Hs36 [_] _ m133) uq136
    refine rN (Xt ?_)
    refine Ze [(agg u8 (Yk (fun q => ([h0, h1, h2, h3, h4, h5, h6, h7].getD (q / 4) 0 >>> (24 - 8 * (q % 4))).setWidth 8) 0 32 32))] ⟨⟨_, s2, Xo X3 rfl Z9 m136.h0 sZ⟩, trivial⟩ ?_
    exact ⟨congrArg (agg u8) ((show Yk (fun q => ([h0, h1, h2, h3, h4, h5, h6, h7].getD (q / 4) 0 >>> (24 - 8 * (q % 4))).setWidth 8) 0 32 32 = Qaa [h0, h1, h2, h3, h4, h5, h6, h7] from rfl).trans (by rw [hh, hMM, pad_same]; exact (sum_flat l).symm)), m136.toExt⟩
end Go.Proofs.YtkmiemlpfkfiiaaDoor
