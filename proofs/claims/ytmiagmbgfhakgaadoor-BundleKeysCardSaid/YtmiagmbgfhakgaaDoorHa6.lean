/- Contracts: the document's hash. Conditions: none beyond those that each theorem states. -/
import Derived.Test.YtmiagmbgfhakgaaDoorHa5
namespace Go.Proofs.YtmiagmbgfhakgaaDoor
set_option linter.unusedVariables false
set_option linter.unusedSimpArgs false

def right3 (x : BitVec 32) (n : Int) : BitVec 32 := x >>> n.toNat ||| x <<< (32 - n).toNat
theorem shl8_add (x : BitVec 32) (y : BitVec 8) : x * 256#32 + y.setWidth 32 = x <<< 8 ||| y.setWidth 32 := by
  have e : x <<< 8 = x * 256#32 := by rw [BitVec.shiftLeft_eq_mul_twoPow]; rfl
  rw [← e]
  refine BitVec.add_eq_or_of_and_eq_zero _ _ ?_
  apply BitVec.eq_of_getLsbD_eq
  intro i hi
  simp only [BitVec.getLsbD_and, BitVec.getLsbD_shiftLeft, BitVec.getLsbD_setWidth, BitVec.getLsbD_zero]
  by_cases h : i < 8
  · simp [h]
  · rw [BitVec.getLsbD_of_ge y i oM]; simp
theorem rr (x : BitVec 32) : right3 x 2 = rotl32 x (-2) ∧ right3 x 6 = rotl32 x (-6) ∧ right3 x 7 = rotl32 x (-7) ∧ right3 x 11 = rotl32 x (-11) ∧ right3 x 13 = rotl32 x (-13) ∧ right3 x 17 = rotl32 x (-17) ∧ right3 x 18 = rotl32 x (-18) ∧ right3 x 19 = rotl32 x (-19) ∧ right3 x 22 = rotl32 x (-22) ∧ right3 x 25 = rotl32 x (-25) := by
  refine ⟨?_, ?_, ?_, ?_, ?_, ?_, ?_, ?_, ?_, ?_⟩ <;> (unfold right3 rotl32; rw [BitVec.or_comm]; rfl)
theorem schedR_first (l : List (BitVec 8)) (k : Nat) (h : k < 16) (a b c d : BitVec 8) (ha : a = l.getD (4 * k) 0) (hb : b = l.getD (4 * k + 1) 0) (hc : c = l.getD (4 * k + 2) 0) (hd : d = l.getD (4 * k + 3) 0) (w : List (BitVec 32)) (hw : w = schedGo l k) :
    (((w.set k (w.getD k 0 * 256#32 + a.setWidth 32)).set k ((w.set k (w.getD k 0 * 256#32 + a.setWidth 32)).getD k 0 * 256#32 + b.setWidth 32)).set k
      (((w.set k (w.getD k 0 * 256#32 + a.setWidth 32)).set k ((w.set k (w.getD k 0 * 256#32 + a.setWidth 32)).getD k 0 * 256#32 + b.setWidth 32)).getD k 0 * 256#32 + c.setWidth 32)).set k
      ((((w.set k (w.getD k 0 * 256#32 + a.setWidth 32)).set k ((w.set k (w.getD k 0 * 256#32 + a.setWidth 32)).getD k 0 * 256#32 + b.setWidth 32)).set k
      (((w.set k (w.getD k 0 * 256#32 + a.setWidth 32)).set k ((w.set k (w.getD k 0 * 256#32 + a.setWidth 32)).getD k 0 * 256#32 + b.setWidth 32)).getD k 0 * 256#32 + c.setWidth 32)).getD k 0 * 256#32 + d.setWidth 32) = schedGo l (k + 1) := by
  simp only [shl8_add]
  exact sched_first l k h a b c d ha hb hc hd w hw
theorem schedR_next (l : List (BitVec 8)) (k : Nat) (h : ¬ k < 16) (h2 : k < 64) (w : List (BitVec 32)) (hw : w = schedGo l k) :
    w.set k (((((right3 (w.getD (k - 2) 0) 17 ^^^ right3 (w.getD (k - 2) 0) 19) ^^^ (w.getD (k - 2) 0) >>> 10) + w.getD (k - 7) 0) + ((right3 (w.getD (k - 15) 0) 7 ^^^ right3 (w.getD (k - 15) 0) 18) ^^^ (w.getD (k - 15) 0) >>> 3)) + w.getD (k - 16) 0) = schedGo l (k + 1) := by
  subst hw
  simp only [schedGo]
  congr 1
  unfold schedWord
  rw [if_neg h]
  simp only [rr]
  ac_rfl
theorem rndR (w t a z c e f g h k : BitVec 32) :
    [((((k + ((right3 f 6 ^^^ right3 f 11) ^^^ right3 f 25)) + ((f &&& g) ^^^ (~~~f &&& h))) + t) + w) + (((right3 a 2 ^^^ right3 a 13) ^^^ right3 a 22) + (((a &&& z) ^^^ (a &&& c)) ^^^ (z &&& c))), a, z, c,
      e + ((((k + ((right3 f 6 ^^^ right3 f 11) ^^^ right3 f 25)) + ((f &&& g) ^^^ (~~~f &&& h))) + t) + w), f, g, h] = rnd w t [a, z, c, e, f, g, h, k] := by
  simp only [rnd, rr]
  have e1 : ((((k + ((rotl32 f (-6) ^^^ rotl32 f (-11)) ^^^ rotl32 f (-25))) + ((f &&& g) ^^^ (~~~f &&& h))) + t) + w) = ((((k + w) + t) + ((f &&& g) ^^^ (~~~f &&& h))) + ((rotl32 f (-6) ^^^ rotl32 f (-11)) ^^^ rotl32 f (-25))) := by ac_rfl
  have e2 : (((rotl32 a (-2) ^^^ rotl32 a (-13)) ^^^ rotl32 a (-22)) + (((a &&& z) ^^^ (a &&& c)) ^^^ (z &&& c))) = ((((a &&& z) ^^^ (a &&& c)) ^^^ (z &&& c)) + ((rotl32 a (-2) ^^^ rotl32 a (-13)) ^^^ rotl32 a (-22))) := by ac_rfl
  rw [e1, e2]
theorem sum_flat (l : List (BitVec 8)) : sumP l = bytesOf (hAt startL (l ++ padP (0#64 + BitVec.ofInt 64 (l.length : Int)) (l.length % 64)) ((l ++ padP (0#64 + BitVec.ofInt 64 (l.length : Int)) (l.length % 64)).length / 64)) := by
  unfold sumP digestP
  have e : (l.drop (64 * (l.length / 64))).length = l.length % 64 := by simp; omega
  rw [e]
  generalize padP (0#64 + BitVec.ofInt 64 (l.length : Int)) (l.length % 64) = p
  congr 1
  have e0 : l.drop (64 * (l.length / 64)) ++ p = (l ++ p).drop (64 * (l.length / 64)) := by rw [List.drop_append_of_le_length oM]
  have e2 : l.length / 64 + (l.drop (64 * (l.length / 64)) ++ p).length / 64 = (l ++ p).length / 64 := by simp; omega
  rw [← e2, ← hAt_take startL l p (l.length / 64) oM, e0, hAt_add]
def padR (n : BitVec 64) (z : Nat) : List (BitVec 8) := 128#8 :: (List.replicate z 0#8 ++ [(n >>> 56).setWidth 8, (n >>> 48).setWidth 8, (n >>> 40).setWidth 8, (n >>> 32).setWidth 8, (n >>> 24).setWidth 8, (n >>> 16).setWidth 8, (n >>> 8).setWidth 8, (n >>> 0).setWidth 8])
theorem pad_same (l : List (BitVec 8)) : padR (BitVec.ofInt 64 (l.length : Int) * 8#64) ((119 - l.length % 64) % 64) = padP (0#64 + BitVec.ofInt 64 (l.length : Int)) (l.length % 64) := by
  unfold padR padP lenB
  have e : ∀ x : BitVec 64, x * 8#64 = (0#64 + x) <<< 3 := fun x => by rw [BitVec.zero_add, BitVec.shiftLeft_eq_mul_twoPow]; rfl
  rw [e]
theorem getD_blk (M : List (BitVec 8)) (m i : Nat) (h : i < 64) (hm : 64 * m + 64 ≤ M.length) : M.getD (64 * m + i) 0 = ((M.drop (64 * m)).take 64).getD i 0 := by
  simp only [List.getD_eq_getElem?_getD, List.getElem?_take, if_pos h, List.getElem?_drop]

theorem hAt_zero (h : List (BitVec 32)) (l : List (BitVec 8)) : hAt h l 0 = h := rfl
theorem hAt_succ (h : List (BitVec 32)) (l : List (BitVec 8)) (m : Nat) : hAt h l (m + 1) = takeP (hAt h l m) ((l.drop (64 * m)).take 64) := rfl
theorem schedGo_zero (l : List (BitVec 8)) : schedGo l 0 = List.replicate 64 0 := rfl
theorem rndsGo_zero (wl s : List (BitVec 32)) : rndsGo wl 0 s = s := rfl
theorem rndsGo_succ (wl s : List (BitVec 32)) (k : Nat) : rndsGo wl (k + 1) s = rnd (wl.getD k 0) (roundL.getD k 0) (rndsGo wl k s) := rfl
theorem sched_later (l : List (BitVec 8)) (i : Nat) : ∀ k, i < k → (schedGo l k).getD i 0 = (schedGo l (i + 1)).getD i 0 := by
  intro k
  induction k with
  | zero => intro h; omega
  | succ k ih =>
    intro h
    rcases Nat.lt_or_ge i k with h1 | h1
    · rw [← ih h1]
      simp only [schedGo, List.getD_eq_getElem?_getD, List.getElem?_set]
      rw [if_neg oM]
    · have : i = k := by omega
      subst this; rfl
theorem sched_stays (l : List (BitVec 8)) (i : Nat) (h : i < 64) : (schedGo l (i + 1)).getD i 0 = (schedP l).getD i 0 := (sched_later l i 64 h).symm
attribute [local irreducible] sumP hAt takeP schedP rndsGo schedGo rnd
theorem c_right3 (x : BitVec 32) (k : Int) (w0 : World)  (h0 : 0 ≤ k) (h1 : k ≤ 32) : CallsR Tryd.prog 65 #[(u32 x), (i64 k)] w0 (fun r w1 => r = (u32 (right3 x k)) ∧ Ext w0 w1) := by
 refine callsR_of_cw (args := [(u32 x), (i64 k)]) Tryd.func65 rfl Tryd.ntmps65 Tryd.results65 rfl ?_
 have hm0 : Mem w0 (restOf w0) [] := Mem.of_world w0
 refine sR ?_
 refine rw_q rfl (ev_assign (v := (u32 0#32)) rfl) ?_
 refine rN (cw_seq ?_)
 refine cw_draw [(0, false), (1, false), (2, false), (3, false), (4, false), (5, false), (6, false)] 7 (by kernel_rfl) <| dw_q rfl rfl (fun _ _hx => ev_move (v := (u32 x)) rfl) <| dw_q rfl rfl (fun _ _hx => ev_move (v := (i64 k)) rfl) <| dw_q rfl rfl (fun _ _hx => ev_u32_shr rfl rfl oM) <| dw_q rfl rfl (fun _ _hx => ev_move (v := (u32 x)) rfl) <| dw_q rfl rfl (fun _ _hx => ev_move (v := (i64 k)) rfl) ?_
 refine dw_q rfl rfl (fun _ _hx => ev_i64_sub (a := 32) rfl rfl oM oM) <| dw_q rfl rfl (fun _ _hx => ev_u32_shl rfl rfl oM) ?_
 refine dw_nil (fun w1 _ew1 => ?_)
 have hm1 := hm0.ext _ew1
 refine rw_q rfl (ev_u32_or rfl rfl) <| rw_q rfl (ev_assign (v := (u32 ((x >>> k.toNat) ||| (x <<< (32 - k).toNat)))) rfl) ?_
 refine rN (cw_ret ?_)
 refine fnPost_ret [(u32 ((x >>> k.toNat) ||| (x <<< (32 - k).toNat)))] ⟨rfl, trivial⟩ ?_
 exact ⟨rfl, hm1.toExt⟩

theorem c_table  (w0 : World)   : CallsR Tryd.prog 64 #[] w0 (fun r w1 => r = (agg u32 roundL) ∧ Ext w0 w1) := by
 refine callsR_of_cw (args := []) Tryd.func64 rfl Tryd.ntmps64 Tryd.results64 rfl ?_
 have hm0 : Mem w0 (restOf w0) [] := Mem.of_world w0
 refine sR ?_
 refine rw_c rfl (or_alloc_agg hm0 ti98) ?_
 rintro _ w1 ⟨b0, rfl, _ew1, hm1⟩
 refine rN (sR ?_)
 refine rw_q rfl (ev_build_cl u32 [1116352408#32, 1899447441#32, 3049323471#32, 3921009573#32, 961987163#32, 1508970993#32, 2453635748#32, 2870763221#32, 3624381080#32, 310598401#32, 607225278#32, 1426881987#32, 1925078388#32, 2162078206#32, 2614888103#32, 3248222580#32, 3835390401#32, 4022224774#32, 264347078#32, 604807628#32, 770255983#32, 1249150122#32, 1555081692#32, 1996064986#32, 2554220882#32, 2821834349#32, 2952996808#32, 3210313671#32, 3336571891#32, 3584528711#32, 113926993#32, 338241895#32, 666307205#32, 773529912#32, 1294757372#32, 1396182291#32, 1695183700#32, 1986661051#32, 2177026350#32, 2456956037#32, 2730485921#32, 2820302411#32, 3259730800#32, 3345764771#32, 3516065817#32, 3600352804#32, 4094571909#32, 275423344#32, 430227734#32, 506948616#32, 659060556#32, 883997877#32, 958139571#32, 1322822218#32, 1537002063#32, 1747873779#32, 1955562222#32, 2024104815#32, 2227730452#32, 2361852424#32, 2428436474#32, 2756734187#32, 3204031479#32, 3329325298#32] u32_one ti98 uT98 ti55 rfl rfl) <| rw_n (or_store_agg (f := u32) (l := [1116352408#32, 1899447441#32, 3049323471#32, 3921009573#32, 961987163#32, 1508970993#32, 2453635748#32, 2870763221#32, 3624381080#32, 310598401#32, 607225278#32, 1426881987#32, 1925078388#32, 2162078206#32, 2614888103#32, 3248222580#32, 3835390401#32, 4022224774#32, 264347078#32, 604807628#32, 770255983#32, 1249150122#32, 1555081692#32, 1996064986#32, 2554220882#32, 2821834349#32, 2952996808#32, 3210313671#32, 3336571891#32, 3584528711#32, 113926993#32, 338241895#32, 666307205#32, 773529912#32, 1294757372#32, 1396182291#32, 1695183700#32, 1986661051#32, 2177026350#32, 2456956037#32, 2730485921#32, 2820302411#32, 3259730800#32, 3345764771#32, 3516065817#32, 3600352804#32, 4094571909#32, 275423344#32, 430227734#32, 506948616#32, 659060556#32, 883997877#32, 958139571#32, 1322822218#32, 1537002063#32, 1747873779#32, 1955562222#32, 2024104815#32, 2227730452#32, 2361852424#32, 2428436474#32, 2756734187#32, 3204031479#32, 3329325298#32]) u32_one ti98 rfl rfl sD hm1.h0 sZ rfl) ?_
 rintro _ w2 uq2
 have hm2 := hm1.upd0 uq2
 refine rN (cw_ret ?_)
 refine fnPost_ret [(agg u32 ([1116352408#32, 1899447441#32, 3049323471#32, 3921009573#32, 961987163#32, 1508970993#32, 2453635748#32, 2870763221#32, 3624381080#32, 310598401#32, 607225278#32, 1426881987#32, 1925078388#32, 2162078206#32, 2614888103#32, 3248222580#32, 3835390401#32, 4022224774#32, 264347078#32, 604807628#32, 770255983#32, 1249150122#32, 1555081692#32, 1996064986#32, 2554220882#32, 2821834349#32, 2952996808#32, 3210313671#32, 3336571891#32, 3584528711#32, 113926993#32, 338241895#32, 666307205#32, 773529912#32, 1294757372#32, 1396182291#32, 1695183700#32, 1986661051#32, 2177026350#32, 2456956037#32, 2730485921#32, 2820302411#32, 3259730800#32, 3345764771#32, 3516065817#32, 3600352804#32, 4094571909#32, 275423344#32, 430227734#32, 506948616#32, 659060556#32, 883997877#32, 958139571#32, 1322822218#32, 1537002063#32, 1747873779#32, 1955562222#32, 2024104815#32, 2227730452#32, 2361852424#32, 2428436474#32, 2756734187#32, 3204031479#32, 3329325298#32]))] ⟨⟨_, rfl, loadVar_run uT98 rfl ti98 hm2.h0 sZ⟩, trivial⟩ ?_
 exact ⟨rfl, hm2.toExt⟩

set_option maxHeartbeats 4000000 in
theorem c_rsum (vb : Value) (l : List (BitVec 8)) (w0 : World)  (hr : Rd (blks w0) u8 vb l) (hl : l.length ≤ 35184372088832) : CallsR Tryd.prog 48 #[vb] w0 (fun r w1 => r = (agg u8 (sumP l)) ∧ Ext w0 w1) := by
 refine callsR_of_cw (args := [vb]) Tryd.func48 rfl Tryd.ntmps48 Tryd.results48 rfl ?_
 have hm0 : Mem w0 (restOf w0) [] := Mem.of_world w0
 refine sR ?_
 refine rw_c rfl (or_alloc_agg hm0 ti23) ?_
 rintro _ w1 ⟨b2, rfl, _ew1, hm1⟩
 refine rN (sR ?_)
 refine rw_c rfl (or_buildSlice_cl u8 [] u8_one hm1 uT26 ti5 rfl (by simp [pairs]) rfl) ?_
 rintro _ w2 ⟨b21, rfl, _ew2, hm2⟩
 refine rM rfl (v := vb) rfl <| rw_c rfl (or_append (f := u8) (Hs := [(b21, .cells (cl u8 ([])) 5 (0, 0))]) (H := [(b2, .cells (cl u8 (List.replicate 32 0)) 23 (0, 0))]) hm2 (Grow.of u8 5 b21 ([])) rfl rfl (Rd.ofRest hr hm2) uT26 uT26 ti5 rfl u8_one sD sD) ?_
 rintro sv3 w3 ⟨Hs3, hm3, g3⟩
 replace g3 : Grow u8 5 sv3 l Hs3 := g3
 refine rA rfl (v := sv3) rfl ?_
 refine rN (sR ?_)
 refine rM rfl (v := sv3) rfl <| rw_c rfl (or_buildSlice_cl u8 [128#8] u8_one hm3 uT26 ti5 rfl rfl rfl) ?_
 rintro _ w4 ⟨b25, rfl, _ew4, hm4⟩
 refine rw_c rfl (or_append (f := u8) (Hs := Hs3) (H := [(b25, .cells (cl u8 ([128#8])) 5 (0, 0)), (b2, .cells (cl u8 (List.replicate 32 0)) 23 (0, 0))]) (Mem.pick [_] Hs3 _ hm4) g3 rfl rfl (Rd.mkA hm4.h0) uT26 uT26 ti5 rfl u8_one sD sD) ?_
 rintro sv5 w5 ⟨Hs5, hm5, g5⟩
 replace g5 : Grow u8 5 sv5 (l ++ ([128#8])) Hs5 := g5
 refine rA rfl (v := sv5) rfl ?_
 refine rN (cw_seq (cw_block ?_))
 refine cw_loop (fun g wv => ∃ (k : Nat) (pl : List (BitVec 8)) (sp : Value) (Hp : List (Nat × Obj)), (k ≤ ((119 - l.length % 64) % 64)) ∧ (pl = l ++ 128#8 :: List.replicate k 0#8) ∧ (Grow u8 5 sp pl Hp) ∧ g 0 = vb ∧ g 2 = (ptr b2 0) ∧ g 3 = sp ∧ Mem wv (restOf w0) (Hp ++ ([(b25, .cells (cl u8 ([128#8])) 5 (0, 0)), (b2, .cells (cl u8 (List.replicate 32 0)) 23 (0, 0))]))) (fun g wv => l.length + ((119 - l.length % 64) % 64) + 2 - sllen (g 3)) ?_ ?_
 · exact ⟨0, l ++ ([128#8]), sv5, Hs5, oM, (by simp), g5, rfl, rfl, rfl, hm5⟩
 · rintro fr6 w7 ⟨k, pl, sp, Hp, hk, hpl, gp, s0, s2, s3, hm7⟩
   have z3 := s3
   have hpn : pl.length = l.length + 1 + k := by rw [hpl]; simp; omega
   refine cw_seq (sR ?_)
   refine rM rfl s3 <| rw_q (v := (i64 (pl.length : Int))) rfl (ev_len_rd (gp.rd hm7) uT26 rfl) <| rw_q rfl (ev_i64_rem (b := 64) rfl rfl oM oM oM) <| rw_q rfl (ev_i64_neq (b := 56) rfl rfl) ?_
   refine rN ?_
   refine cw_cond rfl (fun hc8 => ?_) (fun hc8 => ?_)
   · -- true
     have hc8p := bne_iff_ne.1 hc8
     refine cw_skip (kThen_normal (cw_block' (cw_region ?_)))
     refine rM rfl s3 <| rw_c rfl (or_buildSlice_cl u8 [0#8] u8_one hm7 uT26 ti5 rfl rfl rfl) ?_
     rintro _ w9 ⟨b32, rfl, _ew9, hm9⟩
     refine rw_c rfl (or_append (f := u8) (Hs := Hp) (H := [(b32, .cells (cl u8 ([0#8])) 5 (0, 0)), (b25, .cells (cl u8 ([128#8])) 5 (0, 0)), (b2, .cells (cl u8 (List.replicate 32 0)) 23 (0, 0))]) (Mem.pick [_] Hp _ hm9) gp rfl rfl (Rd.mkA hm9.h0) uT26 uT26 ti5 rfl u8_one sD sD) ?_
     rintro sv10 w10 ⟨Hs10, hm10, g10⟩
     replace g10 : Grow u8 5 sv10 (pl ++ ([0#8])) Hs10 := g10
     refine rA rfl (v := sv10) rfl ?_
     refine rw_nil (kBlk_normal (kThen_normal ?_))
     have hm11 := Mem.drop ([(b32, .cells (cl u8 ([0#8])) 5 (0, 0))]) _ (Mem.pick Hs10 [_] _ hm10)
     exact ⟨⟨k + 1, pl ++ ([0#8]), sv10, Hs10, oM, (by rw [hpl, List.replicate_succ']; simp), g10, s0, s2, rfl, hm11⟩, (by show l.length + ((119 - l.length % 64) % 64) + 2 - sllen sv10 < l.length + ((119 - l.length % 64) % 64) + 2 - sllen _; rw [z3, gp.sllen, Grow.sllen g10]; simp [hpn]; omega)⟩
   · -- false
     have hc8p := eq_of_bne_false hc8
     have hpn : pl.length = l.length + 1 + k := by rw [hpl]; simp; omega
     obtain rfl : k = ((119 - l.length % 64) % 64) := by omega
     subst hpl
     refine cw_exit ?_
     refine kThen_exit (kThen_exit (kBlk_hit ?_))
     refine sR ?_
     refine rM rfl s0 <| rw_q (v := (i64 (l.length : Int))) rfl (ev_len_rd (Rd.ofRest hr hm7) uT26 rfl) <| rw_q rfl (ev_conv_i64_u64 ⟨_, uT3⟩ uT61 rfl) <| rw_q rfl (ev_u64_mul (b := 8#64) rfl rfl) <| rw_q rfl (ev_assign (v := (u64 ((BitVec.ofInt 64 (l.length : Int)) * 8#64))) rfl) ?_
     refine rN (cw_seq (sR ?_))
     refine rw_q rfl (ev_assign (v := (i64 7)) rfl) ?_
     refine rN (cw_block ?_)
     refine cw_rounds 9 ?_
     refine cr_succ (cw_seq (sR ?_))
     refine rw_q rfl (ev_move (v := (i64 7)) rfl) <| rw_q rfl (ev_i64_geq (a := 7) (b := 0) rfl rfl) ?_
     refine rN ?_
     have hm12 := Mem.drop ([(b25, .cells (cl u8 ([128#8])) 5 (0, 0))]) _ (Mem.pick Hp [_] _ hm7)
     refine CW.abs (fun g => g 0 = vb ∧ g 2 = (ptr b2 0) ∧ g 3 = sp ∧ g 4 = (u64 ((BitVec.ofInt 64 (l.length : Int)) * 8#64)) ∧ g 5 = (i64 7) ∧ g 30 = (bl ((((l ++ 128#8 :: List.replicate ((119 - l.length % 64) % 64) 0#8).length : Int) % 64) != 56)) ∧ g 39 = (bl true) ∧ True) ⟨s0, s2, s3, rfl, rfl, rfl, rfl, trivial⟩ ?_
     rintro fr13 ⟨s0, s2, s3, s4, s5, s30, s39, _⟩
     refine cw_cond_t s39 (by decide) ?_
     refine cw_skip (kThen_normal (cw_seq (cw_block (cw_region ?_))))
     refine rM rfl s3 <| rM rfl s4 <| rM rfl s5 <| rw_q (v := (i64 56)) rfl (ev_i64_mul (a := 8) (b := 7) rfl rfl oM oM) <| rw_q rfl (ev_u64_shr (b := 56) rfl rfl oM) <| rw_q rfl (ev_conv_u64_u8 ⟨_, uT61⟩ uT5 rfl) ?_
     refine rw_c rfl (or_buildSlice_cl u8 [(((BitVec.ofInt 64 (l.length : Int)) * 8#64) >>> 56).setWidth 8] u8_one hm12 uT26 ti5 rfl rfl rfl) ?_
     rintro _ w14 ⟨b48, rfl, _ew14, hm14⟩
     refine rw_c rfl (or_append (f := u8) (Hs := Hp) (H := [(b48, .cells (cl u8 ([(((BitVec.ofInt 64 (l.length : Int)) * 8#64) >>> 56).setWidth 8])) 5 (0, 0)), (b2, .cells (cl u8 (List.replicate 32 0)) 23 (0, 0))]) (Mem.pick [_] Hp _ hm14) gp rfl rfl (Rd.mkA hm14.h0) uT26 uT26 ti5 rfl u8_one sD sD) ?_
     rintro sv15 w15 ⟨Hs15, hm15, g15⟩
     replace g15 : Grow u8 5 sv15 ((l ++ 128#8 :: List.replicate ((119 - l.length % 64) % 64) 0#8) ++ ([(((BitVec.ofInt 64 (l.length : Int)) * 8#64) >>> 56).setWidth 8])) Hs15 := g15
     refine rA rfl (v := sv15) rfl ?_
     refine rw_nil (kBlk_normal (cw_region ?_))
     refine rM rfl s5 <| rw_q (v := (i64 6)) rfl (ev_i64_sub (a := 7) (b := 1) rfl rfl oM oM) <| rw_q rfl (ev_assign (v := (i64 6)) rfl) ?_
     refine rN ?_
     refine CR.abs (fun g => g 0 = vb ∧ g 2 = (ptr b2 0) ∧ g 3 = sv15 ∧ g 4 = (u64 ((BitVec.ofInt 64 (l.length : Int)) * 8#64)) ∧ g 5 = (i64 6) ∧ g 30 = (bl ((((l ++ 128#8 :: List.replicate ((119 - l.length % 64) % 64) 0#8).length : Int) % 64) != 56)) ∧ g 39 = (bl true) ∧ True) ⟨s0, s2, rfl, s4, rfl, s30, s39, trivial⟩ ?_
     rintro fr16 ⟨s0, s2, s3, s4, s5, s30, s39, _⟩
     refine cr_succ (cw_seq (sR ?_))
     refine rM rfl s5 <| rw_q rfl (ev_i64_geq (a := 6) (b := 0) rfl rfl) ?_
     refine rN ?_
     refine cw_cond_t rfl (by decide) ?_
     refine cw_skip (kThen_normal (cw_seq (cw_block (cw_region ?_))))
     refine rM rfl s3 <| rM rfl s4 <| rM rfl s5 <| rw_q (v := (i64 48)) rfl (ev_i64_mul (a := 8) (b := 6) rfl rfl oM oM) <| rw_q rfl (ev_u64_shr (b := 48) rfl rfl oM) <| rw_q rfl (ev_conv_u64_u8 ⟨_, uT61⟩ uT5 rfl) ?_
     refine rw_c rfl (or_buildSlice_cl u8 [(((BitVec.ofInt 64 (l.length : Int)) * 8#64) >>> 48).setWidth 8] u8_one hm15 uT26 ti5 rfl rfl rfl) ?_
     rintro _ w17 ⟨b48_1, rfl, _ew17, hm17⟩
     refine rw_c rfl (or_append (f := u8) (Hs := Hs15) (H := [(b48_1, .cells (cl u8 ([(((BitVec.ofInt 64 (l.length : Int)) * 8#64) >>> 48).setWidth 8])) 5 (0, 0)), (b48, .cells (cl u8 ([(((BitVec.ofInt 64 (l.length : Int)) * 8#64) >>> 56).setWidth 8])) 5 (0, 0)), (b2, .cells (cl u8 (List.replicate 32 0)) 23 (0, 0))]) (Mem.pick [_] Hs15 _ hm17) g15 rfl rfl (Rd.mkA hm17.h0) uT26 uT26 ti5 rfl u8_one sD sD) ?_
     rintro sv18 w18 ⟨Hs18, hm18, g18⟩
     replace g18 : Grow u8 5 sv18 (((l ++ 128#8 :: List.replicate ((119 - l.length % 64) % 64) 0#8) ++ ([(((BitVec.ofInt 64 (l.length : Int)) * 8#64) >>> 56).setWidth 8])) ++ ([(((BitVec.ofInt 64 (l.length : Int)) * 8#64) >>> 48).setWidth 8])) Hs18 := g18
     refine rA rfl (v := sv18) rfl ?_
     refine rw_nil (kBlk_normal ?_)
     have hm19 := Mem.drop ([(b48_1, .cells (cl u8 ([(((BitVec.ofInt 64 (l.length : Int)) * 8#64) >>> 48).setWidth 8])) 5 (0, 0))]) _ (Mem.pick Hs18 [_] _ hm18)
     have hm20 := Mem.drop ([(b48, .cells (cl u8 ([(((BitVec.ofInt 64 (l.length : Int)) * 8#64) >>> 56).setWidth 8])) 5 (0, 0))]) _ (Mem.pick Hs18 [_] _ hm19)
     refine CW.abs (fun g => g 0 = vb ∧ g 2 = (ptr b2 0) ∧ g 3 = sv18 ∧ g 4 = (u64 ((BitVec.ofInt 64 (l.length : Int)) * 8#64)) ∧ g 5 = (i64 6) ∧ g 30 = (bl ((((l ++ 128#8 :: List.replicate ((119 - l.length % 64) % 64) 0#8).length : Int) % 64) != 56)) ∧ g 39 = (bl true) ∧ True) ⟨s0, s2, rfl, s4, s5, s30, rfl, trivial⟩ ?_
     rintro fr21 ⟨s0, s2, s3, s4, s5, s30, s39, _⟩
     refine cw_region <| rM rfl s5 <| rw_q (v := (i64 5)) rfl (ev_i64_sub (a := 6) (b := 1) rfl rfl oM oM) <| rw_q rfl (ev_assign (v := (i64 5)) rfl) ?_
     refine rN (cr_succ (cw_seq (sR ?_)))
     refine rw_q rfl (ev_move (v := (i64 5)) rfl) <| rw_q rfl (ev_i64_geq (a := 5) (b := 0) rfl rfl) ?_
     refine rN ?_
     refine cw_cond_t rfl (by decide) ?_
     refine cw_skip (kThen_normal (cw_seq (cw_block (cw_region ?_))))
     refine rM rfl s3 <| rM rfl s4 <| rw_q rfl (ev_move (v := (i64 5)) rfl) <| rw_q (v := (i64 40)) rfl (ev_i64_mul (a := 8) (b := 5) rfl rfl oM oM) <| rw_q rfl (ev_u64_shr (b := 40) rfl rfl oM) <| rw_q rfl (ev_conv_u64_u8 ⟨_, uT61⟩ uT5 rfl) ?_
     refine rw_c rfl (or_buildSlice_cl u8 [(((BitVec.ofInt 64 (l.length : Int)) * 8#64) >>> 40).setWidth 8] u8_one hm20 uT26 ti5 rfl rfl rfl) ?_
     rintro _ w22 ⟨b48_2, rfl, _ew22, hm22⟩
     refine rw_c rfl (or_append (f := u8) (Hs := Hs18) (H := [(b48_2, .cells (cl u8 ([(((BitVec.ofInt 64 (l.length : Int)) * 8#64) >>> 40).setWidth 8])) 5 (0, 0)), (b2, .cells (cl u8 (List.replicate 32 0)) 23 (0, 0))]) (Mem.pick [_] Hs18 _ hm22) g18 rfl rfl (Rd.mkA hm22.h0) uT26 uT26 ti5 rfl u8_one sD sD) ?_
     rintro sv23 w23 ⟨Hs23, hm23, g23⟩
     replace g23 : Grow u8 5 sv23 ((((l ++ 128#8 :: List.replicate ((119 - l.length % 64) % 64) 0#8) ++ ([(((BitVec.ofInt 64 (l.length : Int)) * 8#64) >>> 56).setWidth 8])) ++ ([(((BitVec.ofInt 64 (l.length : Int)) * 8#64) >>> 48).setWidth 8])) ++ ([(((BitVec.ofInt 64 (l.length : Int)) * 8#64) >>> 40).setWidth 8])) Hs23 := g23
     refine rA rfl (v := sv23) rfl ?_
     refine rw_nil (kBlk_normal ?_)
     have hm24 := Mem.drop ([(b48_2, .cells (cl u8 ([(((BitVec.ofInt 64 (l.length : Int)) * 8#64) >>> 40).setWidth 8])) 5 (0, 0))]) _ (Mem.pick Hs23 [_] _ hm23)
     refine CW.abs (fun g => g 0 = vb ∧ g 2 = (ptr b2 0) ∧ g 3 = sv23 ∧ g 4 = (u64 ((BitVec.ofInt 64 (l.length : Int)) * 8#64)) ∧ g 5 = (i64 5) ∧ g 30 = (bl ((((l ++ 128#8 :: List.replicate ((119 - l.length % 64) % 64) 0#8).length : Int) % 64) != 56)) ∧ g 39 = (bl true) ∧ True) ⟨s0, s2, rfl, s4, rfl, s30, rfl, trivial⟩ ?_
     rintro fr25 ⟨s0, s2, s3, s4, s5, s30, s39, _⟩
     refine cw_region <| rM rfl s5 <| rw_q (v := (i64 4)) rfl (ev_i64_sub (a := 5) (b := 1) rfl rfl oM oM) <| rw_q rfl (ev_assign (v := (i64 4)) rfl) ?_
     refine rN (cr_succ (cw_seq (sR ?_)))
     refine rw_q rfl (ev_move (v := (i64 4)) rfl) <| rw_q rfl (ev_i64_geq (a := 4) (b := 0) rfl rfl) ?_
     refine rN ?_
     refine cw_cond_t rfl (by decide) ?_
     refine cw_skip (kThen_normal (cw_seq (cw_block (cw_region ?_))))
     refine rM rfl s3 <| rM rfl s4 <| rw_q rfl (ev_move (v := (i64 4)) rfl) <| rw_q (v := (i64 32)) rfl (ev_i64_mul (a := 8) (b := 4) rfl rfl oM oM) <| rw_q rfl (ev_u64_shr (b := 32) rfl rfl oM) <| rw_q rfl (ev_conv_u64_u8 ⟨_, uT61⟩ uT5 rfl) ?_
     refine rw_c rfl (or_buildSlice_cl u8 [(((BitVec.ofInt 64 (l.length : Int)) * 8#64) >>> 32).setWidth 8] u8_one hm24 uT26 ti5 rfl rfl rfl) ?_
     rintro _ w26 ⟨b48_3, rfl, _ew26, hm26⟩
     refine rw_c rfl (or_append (f := u8) (Hs := Hs23) (H := [(b48_3, .cells (cl u8 ([(((BitVec.ofInt 64 (l.length : Int)) * 8#64) >>> 32).setWidth 8])) 5 (0, 0)), (b2, .cells (cl u8 (List.replicate 32 0)) 23 (0, 0))]) (Mem.pick [_] Hs23 _ hm26) g23 rfl rfl (Rd.mkA hm26.h0) uT26 uT26 ti5 rfl u8_one sD sD) ?_
     rintro sv27 w27 ⟨Hs27, hm27, g27⟩
     replace g27 : Grow u8 5 sv27 (((((l ++ 128#8 :: List.replicate ((119 - l.length % 64) % 64) 0#8) ++ ([(((BitVec.ofInt 64 (l.length : Int)) * 8#64) >>> 56).setWidth 8])) ++ ([(((BitVec.ofInt 64 (l.length : Int)) * 8#64) >>> 48).setWidth 8])) ++ ([(((BitVec.ofInt 64 (l.length : Int)) * 8#64) >>> 40).setWidth 8])) ++ ([(((BitVec.ofInt 64 (l.length : Int)) * 8#64) >>> 32).setWidth 8])) Hs27 := g27
     refine rA rfl (v := sv27) rfl ?_
     refine rw_nil (kBlk_normal ?_)
     have hm28 := Mem.drop ([(b48_3, .cells (cl u8 ([(((BitVec.ofInt 64 (l.length : Int)) * 8#64) >>> 32).setWidth 8])) 5 (0, 0))]) _ (Mem.pick Hs27 [_] _ hm27)
     refine CW.abs (fun g => g 0 = vb ∧ g 2 = (ptr b2 0) ∧ g 3 = sv27 ∧ g 4 = (u64 ((BitVec.ofInt 64 (l.length : Int)) * 8#64)) ∧ g 5 = (i64 4) ∧ g 30 = (bl ((((l ++ 128#8 :: List.replicate ((119 - l.length % 64) % 64) 0#8).length : Int) % 64) != 56)) ∧ g 39 = (bl true) ∧ True) ⟨s0, s2, rfl, s4, rfl, s30, rfl, trivial⟩ ?_
     rintro fr29 ⟨s0, s2, s3, s4, s5, s30, s39, _⟩
     refine cw_region <| rM rfl s5 <| rw_q (v := (i64 3)) rfl (ev_i64_sub (a := 4) (b := 1) rfl rfl oM oM) <| rw_q rfl (ev_assign (v := (i64 3)) rfl) ?_
     refine rN (cr_succ (cw_seq (sR ?_)))
     refine rw_q rfl (ev_move (v := (i64 3)) rfl) <| rw_q rfl (ev_i64_geq (a := 3) (b := 0) rfl rfl) ?_
     refine rN ?_
     refine cw_cond_t rfl (by decide) ?_
     refine cw_skip (kThen_normal (cw_seq (cw_block (cw_region ?_))))
     refine rM rfl s3 <| rM rfl s4 <| rw_q rfl (ev_move (v := (i64 3)) rfl) <| rw_q (v := (i64 24)) rfl (ev_i64_mul (a := 8) (b := 3) rfl rfl oM oM) <| rw_q rfl (ev_u64_shr (b := 24) rfl rfl oM) <| rw_q rfl (ev_conv_u64_u8 ⟨_, uT61⟩ uT5 rfl) ?_
     refine rw_c rfl (or_buildSlice_cl u8 [(((BitVec.ofInt 64 (l.length : Int)) * 8#64) >>> 24).setWidth 8] u8_one hm28 uT26 ti5 rfl rfl rfl) ?_
     rintro _ w30 ⟨b48_4, rfl, _ew30, hm30⟩
     refine rw_c rfl (or_append (f := u8) (Hs := Hs27) (H := [(b48_4, .cells (cl u8 ([(((BitVec.ofInt 64 (l.length : Int)) * 8#64) >>> 24).setWidth 8])) 5 (0, 0)), (b2, .cells (cl u8 (List.replicate 32 0)) 23 (0, 0))]) (Mem.pick [_] Hs27 _ hm30) g27 rfl rfl (Rd.mkA hm30.h0) uT26 uT26 ti5 rfl u8_one sD sD) ?_
     rintro sv31 w31 ⟨Hs31, hm31, g31⟩
     replace g31 : Grow u8 5 sv31 ((((((l ++ 128#8 :: List.replicate ((119 - l.length % 64) % 64) 0#8) ++ ([(((BitVec.ofInt 64 (l.length : Int)) * 8#64) >>> 56).setWidth 8])) ++ ([(((BitVec.ofInt 64 (l.length : Int)) * 8#64) >>> 48).setWidth 8])) ++ ([(((BitVec.ofInt 64 (l.length : Int)) * 8#64) >>> 40).setWidth 8])) ++ ([(((BitVec.ofInt 64 (l.length : Int)) * 8#64) >>> 32).setWidth 8])) ++ ([(((BitVec.ofInt 64 (l.length : Int)) * 8#64) >>> 24).setWidth 8])) Hs31 := g31
     refine rA rfl (v := sv31) rfl ?_
     refine rw_nil (kBlk_normal ?_)
     have hm32 := Mem.drop ([(b48_4, .cells (cl u8 ([(((BitVec.ofInt 64 (l.length : Int)) * 8#64) >>> 24).setWidth 8])) 5 (0, 0))]) _ (Mem.pick Hs31 [_] _ hm31)
     refine CW.abs (fun g => g 0 = vb ∧ g 2 = (ptr b2 0) ∧ g 3 = sv31 ∧ g 4 = (u64 ((BitVec.ofInt 64 (l.length : Int)) * 8#64)) ∧ g 5 = (i64 3) ∧ g 30 = (bl ((((l ++ 128#8 :: List.replicate ((119 - l.length % 64) % 64) 0#8).length : Int) % 64) != 56)) ∧ g 39 = (bl true) ∧ True) ⟨s0, s2, rfl, s4, rfl, s30, rfl, trivial⟩ ?_
     rintro fr33 ⟨s0, s2, s3, s4, s5, s30, s39, _⟩
     refine cw_region <| rM rfl s5 <| rw_q (v := (i64 2)) rfl (ev_i64_sub (a := 3) (b := 1) rfl rfl oM oM) <| rw_q rfl (ev_assign (v := (i64 2)) rfl) ?_
     refine rN (cr_succ (cw_seq (sR ?_)))
     refine rw_q rfl (ev_move (v := (i64 2)) rfl) <| rw_q rfl (ev_i64_geq (a := 2) (b := 0) rfl rfl) ?_
     refine rN ?_
     refine cw_cond_t rfl (by decide) ?_
     refine cw_skip (kThen_normal (cw_seq (cw_block (cw_region ?_))))
     refine rM rfl s3 <| rM rfl s4 <| rw_q rfl (ev_move (v := (i64 2)) rfl) <| rw_q (v := (i64 16)) rfl (ev_i64_mul (a := 8) (b := 2) rfl rfl oM oM) <| rw_q rfl (ev_u64_shr (b := 16) rfl rfl oM) <| rw_q rfl (ev_conv_u64_u8 ⟨_, uT61⟩ uT5 rfl) ?_
     refine rw_c rfl (or_buildSlice_cl u8 [(((BitVec.ofInt 64 (l.length : Int)) * 8#64) >>> 16).setWidth 8] u8_one hm32 uT26 ti5 rfl rfl rfl) ?_
     rintro _ w34 ⟨b48_5, rfl, _ew34, hm34⟩
     refine rw_c rfl (or_append (f := u8) (Hs := Hs31) (H := [(b48_5, .cells (cl u8 ([(((BitVec.ofInt 64 (l.length : Int)) * 8#64) >>> 16).setWidth 8])) 5 (0, 0)), (b2, .cells (cl u8 (List.replicate 32 0)) 23 (0, 0))]) (Mem.pick [_] Hs31 _ hm34) g31 rfl rfl (Rd.mkA hm34.h0) uT26 uT26 ti5 rfl u8_one sD sD) ?_
     rintro sv35 w35 ⟨Hs35, hm35, g35⟩
     replace g35 : Grow u8 5 sv35 (((((((l ++ 128#8 :: List.replicate ((119 - l.length % 64) % 64) 0#8) ++ ([(((BitVec.ofInt 64 (l.length : Int)) * 8#64) >>> 56).setWidth 8])) ++ ([(((BitVec.ofInt 64 (l.length : Int)) * 8#64) >>> 48).setWidth 8])) ++ ([(((BitVec.ofInt 64 (l.length : Int)) * 8#64) >>> 40).setWidth 8])) ++ ([(((BitVec.ofInt 64 (l.length : Int)) * 8#64) >>> 32).setWidth 8])) ++ ([(((BitVec.ofInt 64 (l.length : Int)) * 8#64) >>> 24).setWidth 8])) ++ ([(((BitVec.ofInt 64 (l.length : Int)) * 8#64) >>> 16).setWidth 8])) Hs35 := g35
     refine rA rfl (v := sv35) rfl ?_
     refine rw_nil (kBlk_normal ?_)
     have hm36 := Mem.drop ([(b48_5, .cells (cl u8 ([(((BitVec.ofInt 64 (l.length : Int)) * 8#64) >>> 16).setWidth 8])) 5 (0, 0))]) _ (Mem.pick Hs35 [_] _ hm35)
     refine CW.abs (fun g => g 0 = vb ∧ g 2 = (ptr b2 0) ∧ g 3 = sv35 ∧ g 4 = (u64 ((BitVec.ofInt 64 (l.length : Int)) * 8#64)) ∧ g 5 = (i64 2) ∧ g 30 = (bl ((((l ++ 128#8 :: List.replicate ((119 - l.length % 64) % 64) 0#8).length : Int) % 64) != 56)) ∧ g 39 = (bl true) ∧ True) ⟨s0, s2, rfl, s4, rfl, s30, rfl, trivial⟩ ?_
     rintro fr37 ⟨s0, s2, s3, s4, s5, s30, s39, _⟩
     refine cw_region <| rM rfl s5 <| rw_q (v := (i64 1)) rfl (ev_i64_sub (a := 2) (b := 1) rfl rfl oM oM) <| rw_q rfl (ev_assign (v := (i64 1)) rfl) ?_
     refine rN (cr_succ (cw_seq (sR ?_)))
     refine rw_q rfl (ev_move (v := (i64 1)) rfl) <| rw_q rfl (ev_i64_geq (a := 1) (b := 0) rfl rfl) ?_
     refine rN ?_
     refine cw_cond_t rfl (by decide) ?_
     refine cw_skip (kThen_normal (cw_seq (cw_block (cw_region ?_))))
     refine rM rfl s3 <| rM rfl s4 <| rw_q rfl (ev_move (v := (i64 1)) rfl) <| rw_q (v := (i64 8)) rfl (ev_i64_mul (a := 8) (b := 1) rfl rfl oM oM) <| rw_q rfl (ev_u64_shr (b := 8) rfl rfl oM) <| rw_q rfl (ev_conv_u64_u8 ⟨_, uT61⟩ uT5 rfl) ?_
     refine rw_c rfl (or_buildSlice_cl u8 [(((BitVec.ofInt 64 (l.length : Int)) * 8#64) >>> 8).setWidth 8] u8_one hm36 uT26 ti5 rfl rfl rfl) ?_
     rintro _ w38 ⟨b48_6, rfl, _ew38, hm38⟩
     refine rw_c rfl (or_append (f := u8) (Hs := Hs35) (H := [(b48_6, .cells (cl u8 ([(((BitVec.ofInt 64 (l.length : Int)) * 8#64) >>> 8).setWidth 8])) 5 (0, 0)), (b2, .cells (cl u8 (List.replicate 32 0)) 23 (0, 0))]) (Mem.pick [_] Hs35 _ hm38) g35 rfl rfl (Rd.mkA hm38.h0) uT26 uT26 ti5 rfl u8_one sD sD) ?_
     rintro sv39 w39 ⟨Hs39, hm39, g39⟩
     replace g39 : Grow u8 5 sv39 ((((((((l ++ 128#8 :: List.replicate ((119 - l.length % 64) % 64) 0#8) ++ ([(((BitVec.ofInt 64 (l.length : Int)) * 8#64) >>> 56).setWidth 8])) ++ ([(((BitVec.ofInt 64 (l.length : Int)) * 8#64) >>> 48).setWidth 8])) ++ ([(((BitVec.ofInt 64 (l.length : Int)) * 8#64) >>> 40).setWidth 8])) ++ ([(((BitVec.ofInt 64 (l.length : Int)) * 8#64) >>> 32).setWidth 8])) ++ ([(((BitVec.ofInt 64 (l.length : Int)) * 8#64) >>> 24).setWidth 8])) ++ ([(((BitVec.ofInt 64 (l.length : Int)) * 8#64) >>> 16).setWidth 8])) ++ ([(((BitVec.ofInt 64 (l.length : Int)) * 8#64) >>> 8).setWidth 8])) Hs39 := g39
     refine rA rfl (v := sv39) rfl ?_
     refine rw_nil (kBlk_normal ?_)
     have hm40 := Mem.drop ([(b48_6, .cells (cl u8 ([(((BitVec.ofInt 64 (l.length : Int)) * 8#64) >>> 8).setWidth 8])) 5 (0, 0))]) _ (Mem.pick Hs39 [_] _ hm39)
     refine CW.abs (fun g => g 0 = vb ∧ g 2 = (ptr b2 0) ∧ g 3 = sv39 ∧ g 4 = (u64 ((BitVec.ofInt 64 (l.length : Int)) * 8#64)) ∧ g 5 = (i64 1) ∧ g 30 = (bl ((((l ++ 128#8 :: List.replicate ((119 - l.length % 64) % 64) 0#8).length : Int) % 64) != 56)) ∧ g 39 = (bl true) ∧ True) ⟨s0, s2, rfl, s4, rfl, s30, rfl, trivial⟩ ?_
     rintro fr41 ⟨s0, s2, s3, s4, s5, s30, s39, _⟩
     refine cw_region <| rM rfl s5 <| rw_q (v := (i64 0)) rfl (ev_i64_sub (a := 1) (b := 1) rfl rfl oM oM) <| rw_q rfl (ev_assign (v := (i64 0)) rfl) ?_
     refine rN (cr_succ (cw_seq (sR ?_)))
     refine rw_q rfl (ev_move (v := (i64 0)) rfl) <| rw_q rfl (ev_i64_geq (a := 0) (b := 0) rfl rfl) ?_
     refine rN ?_
     refine cw_cond_t rfl (by decide) ?_
     refine cw_skip (kThen_normal (cw_seq (cw_block (cw_region ?_))))
     refine rM rfl s3 <| rM rfl s4 <| rw_q rfl (ev_move (v := (i64 0)) rfl) <| rw_q (v := (i64 0)) rfl (ev_i64_mul (a := 8) (b := 0) rfl rfl oM oM) <| rw_q rfl (ev_u64_shr (b := 0) rfl rfl oM) <| rw_q rfl (ev_conv_u64_u8 ⟨_, uT61⟩ uT5 rfl) ?_
     refine rw_c rfl (or_buildSlice_cl u8 [(((BitVec.ofInt 64 (l.length : Int)) * 8#64) >>> 0).setWidth 8] u8_one hm40 uT26 ti5 rfl rfl rfl) ?_
     rintro _ w42 ⟨b48_7, rfl, _ew42, hm42⟩
     refine rw_c rfl (or_append (f := u8) (Hs := Hs39) (H := [(b48_7, .cells (cl u8 ([(((BitVec.ofInt 64 (l.length : Int)) * 8#64) >>> 0).setWidth 8])) 5 (0, 0)), (b2, .cells (cl u8 (List.replicate 32 0)) 23 (0, 0))]) (Mem.pick [_] Hs39 _ hm42) g39 rfl rfl (Rd.mkA hm42.h0) uT26 uT26 ti5 rfl u8_one sD sD) ?_
     rintro sv43 w43 ⟨Hs43, hm43, g43⟩
     replace g43 : Grow u8 5 sv43 (((((((((l ++ 128#8 :: List.replicate ((119 - l.length % 64) % 64) 0#8) ++ ([(((BitVec.ofInt 64 (l.length : Int)) * 8#64) >>> 56).setWidth 8])) ++ ([(((BitVec.ofInt 64 (l.length : Int)) * 8#64) >>> 48).setWidth 8])) ++ ([(((BitVec.ofInt 64 (l.length : Int)) * 8#64) >>> 40).setWidth 8])) ++ ([(((BitVec.ofInt 64 (l.length : Int)) * 8#64) >>> 32).setWidth 8])) ++ ([(((BitVec.ofInt 64 (l.length : Int)) * 8#64) >>> 24).setWidth 8])) ++ ([(((BitVec.ofInt 64 (l.length : Int)) * 8#64) >>> 16).setWidth 8])) ++ ([(((BitVec.ofInt 64 (l.length : Int)) * 8#64) >>> 8).setWidth 8])) ++ ([(((BitVec.ofInt 64 (l.length : Int)) * 8#64) >>> 0).setWidth 8])) Hs43 := g43
     refine rA rfl (v := sv43) rfl ?_
     refine rw_nil (kBlk_normal ?_)
     have hm44 := Mem.drop ([(b48_7, .cells (cl u8 ([(((BitVec.ofInt 64 (l.length : Int)) * 8#64) >>> 0).setWidth 8])) 5 (0, 0))]) _ (Mem.pick Hs43 [_] _ hm43)
     refine CW.abs (fun g => g 0 = vb ∧ g 2 = (ptr b2 0) ∧ g 3 = sv43 ∧ g 4 = (u64 ((BitVec.ofInt 64 (l.length : Int)) * 8#64)) ∧ g 5 = (i64 0) ∧ g 30 = (bl ((((l ++ 128#8 :: List.replicate ((119 - l.length % 64) % 64) 0#8).length : Int) % 64) != 56)) ∧ g 39 = (bl true) ∧ True) ⟨s0, s2, rfl, s4, rfl, s30, rfl, trivial⟩ ?_
     rintro fr45 ⟨s0, s2, s3, s4, s5, s30, s39, _⟩
     refine cw_region <| rM rfl s5 <| rw_q (v := (i64 (-1))) rfl (ev_i64_sub (a := 0) (b := 1) rfl rfl oM oM) <| rw_q rfl (ev_assign (v := (i64 (-1))) rfl) ?_
     refine rN (cr_succ (cw_seq (sR ?_)))
     refine rw_q rfl (ev_move (v := (i64 (-1))) rfl) <| rw_q rfl (ev_i64_geq (a := (-1)) (b := 0) rfl rfl) ?_
     refine rN ?_
     refine cw_cond_f rfl (by decide) <| cw_exit ?_
     refine kThen_exit (kThen_exit (kBlk_hit ?_))
     refine cw_seq ?_
     have hM : ((((((((l ++ 128#8 :: List.replicate ((119 - l.length % 64) % 64) 0#8) ++ ([(((BitVec.ofInt 64 (l.length : Int)) * 8#64) >>> 56).setWidth 8])) ++ ([(((BitVec.ofInt 64 (l.length : Int)) * 8#64) >>> 48).setWidth 8])) ++ ([(((BitVec.ofInt 64 (l.length : Int)) * 8#64) >>> 40).setWidth 8])) ++ ([(((BitVec.ofInt 64 (l.length : Int)) * 8#64) >>> 32).setWidth 8])) ++ ([(((BitVec.ofInt 64 (l.length : Int)) * 8#64) >>> 24).setWidth 8])) ++ ([(((BitVec.ofInt 64 (l.length : Int)) * 8#64) >>> 16).setWidth 8])) ++ ([(((BitVec.ofInt 64 (l.length : Int)) * 8#64) >>> 8).setWidth 8])) ++ ([(((BitVec.ofInt 64 (l.length : Int)) * 8#64) >>> 0).setWidth 8]) = (l ++ padR (BitVec.ofInt 64 (l.length : Int) * 8#64) ((119 - l.length % 64) % 64)) := by simp [padR]
     obtain ⟨M, hMM⟩ : ∃ M, M = (l ++ padR (BitVec.ofInt 64 (l.length : Int) * 8#64) ((119 - l.length % 64) % 64)) := ⟨_, rfl⟩
     have hMl : M.length = l.length + 9 + ((119 - l.length % 64) % 64) := by rw [hMM]; simp [padR]; omega
     have hMd : M.length % 64 = 0 := by clear hm0; omega
     have gM46 := g43
     rw [hM, ← hMM] at gM46
     refine cw_region <| rw_c rfl (opR_call Tryd.func64 bd64 nm64 (args0) (c_table _)) ?_
     rintro _ w47 ⟨rfl, _ew47⟩
     have hm47 := hm44.ext _ew47
     refine rw_c rfl (or_alloc_agg hm47 ti98) ?_
     rintro _ w49 ⟨b6, rfl, _ew49, hm49⟩
     refine rw_n (or_store_agg (f := u32) (l := roundL) u32_one ti98 rfl rfl sD hm49.h0 sZ rfl) ?_
     rintro _ w50 uq50
     have hm50 := hm49.upd0 uq50
     refine rN (sR ?_)
     refine rw_q rfl (ev_build_cl u32 [1779033703#32, 3144134277#32, 1013904242#32, 2773480762#32, 1359893119#32, 2600822924#32, 528734635#32, 1541459225#32] u32_one ti94 uT94 ti55 rfl rfl) <| rw_c rfl (or_alloc_agg hm50 ti94) ?_
     rintro _ w51 ⟨b7, rfl, _ew51, hm51⟩
     refine rw_n (or_store_agg (f := u32) (l := [1779033703#32, 3144134277#32, 1013904242#32, 2773480762#32, 1359893119#32, 2600822924#32, 528734635#32, 1541459225#32]) u32_one ti94 rfl rfl sD hm51.h0 sZ rfl) ?_
     rintro _ w52 uq52
     have hm52 := hm51.upd0 uq52
     refine rN (cw_seq (sR ?_))
     refine rw_q rfl (ev_assign (v := (i64 0)) rfl) ?_
     refine rN (cw_block ?_)
     refine cw_loop (fun g wv => ∃ (m : Nat) (h0 h1 h2 h3 h4 h5 h6 h7 : BitVec 32), (64 * m ≤ M.length) ∧ ([h0, h1, h2, h3, h4, h5, h6, h7] = hAt startL M m) ∧ g 0 = vb ∧ g 2 = (ptr b2 0) ∧ g 3 = sv43 ∧ g 4 = (u64 ((BitVec.ofInt 64 (l.length : Int)) * 8#64)) ∧ g 5 = (i64 (-1)) ∧ g 6 = (ptr b6 0) ∧ g 7 = (ptr b7 0) ∧ g 8 = (i64 ((64 * m : Nat) : Int)) ∧ g 30 = (bl ((((l ++ 128#8 :: List.replicate ((119 - l.length % 64) % 64) 0#8).length : Int) % 64) != 56)) ∧ g 39 = (bl false) ∧ Mem wv (restOf w0) ([(b7, .cells (cl u32 ([h0, h1, h2, h3, h4, h5, h6, h7])) 94 (0, 0)), (b6, .cells (cl u32 roundL) 98 (0, 0))] ++ (Hs43 ++ ([(b2, .cells (cl u8 (List.replicate 32 0)) 23 (0, 0))])))) (fun g wv => ((M.length : Int) - RowKit.intOf (g 8)).toNat) ?_ ?_
     · exact ⟨0, 1779033703#32, 3144134277#32, 1013904242#32, 2773480762#32, 1359893119#32, 2600822924#32, 528734635#32, 1541459225#32, oM, (hAt_zero startL M).symm, s0, s2, s3, s4, rfl, rfl, rfl, rfl, s30, rfl, hm52⟩
     · rintro fr53 w54 ⟨m, h0, h1, h2, h3, h4, h5, h6, h7, hm, hh, s0, s2, s3, s4, s5, s6, s7, s8, s30, s39, hm54⟩
       have z8 := s8
       refine cw_seq (sR ?_)
       refine rM rfl s8 <| rM rfl s3 <| rw_q (v := (i64 (M.length : Int))) rfl (ev_len_rd (gM46.rd (Mem.pick [_, _] Hs43 _ hm54)) uT26 rfl) <| rw_q rfl (ev_i64_lss rfl rfl) ?_
       refine rN ?_
       refine cw_cond rfl (fun hc55 => ?_) (fun hc55 => ?_)
       · -- true
         have hc55p := of_decide_eq_true hc55
         have hm64 : 64 * m + 64 ≤ M.length := by clear hMl; omega
         refine cw_skip (kThen_normal (cw_seq (cw_block (sR ?_))))
         refine rw_q rfl (ev_build_arr (ps := []) (c := (cl u32 (List.replicate 64 0))) ti98 uT98 ti55 (by simp) rfl) <| rw_c rfl (or_alloc_agg hm54 ti98) ?_
         rintro _ w56 ⟨b9, rfl, _ew56, hm56⟩
         refine rw_n (or_store_agg (f := u32) (l := List.replicate 64 0) u32_one ti98 rfl rfl sD hm56.h0 sZ rfl) ?_
         rintro _ w57 uq57
         have hm57 := hm56.upd0 uq57
         refine rN (sR ?_)
         refine rw_q (v := (agg u32 ([h0, h1, h2, h3, h4, h5, h6, h7]))) rfl (ev_loadA uT94 rfl ti94 s7 hm57.h1 sZ) <| rw_c rfl (or_alloc_agg hm57 ti94) ?_
         rintro _ w58 ⟨b10, rfl, _ew58, hm58⟩
         refine rw_n (or_store_agg (f := u32) (l := [h0, h1, h2, h3, h4, h5, h6, h7]) u32_one ti94 rfl rfl sD hm58.h0 sZ rfl) ?_
         rintro _ w59 uq59
         have hm59 := hm58.upd0 uq59
         refine rN (cw_seq (sR ?_))
         refine rw_q rfl (ev_assign (v := (i64 0)) rfl) ?_
         refine rN (cw_block ?_)
         refine cw_loop (fun g wv => ∃ (i : Nat) (wl : List (BitVec 32)) (v0 v1 v2 v3 v4 v5 v6 v7 : BitVec 32), (i ≤ 64) ∧ (wl = schedGo ((M.drop (64 * m)).take 64) i) ∧ ([v0, v1, v2, v3, v4, v5, v6, v7] = rndsGo (schedP ((M.drop (64 * m)).take 64)) i [h0, h1, h2, h3, h4, h5, h6, h7]) ∧ g 0 = vb ∧ g 2 = (ptr b2 0) ∧ g 3 = sv43 ∧ g 4 = (u64 ((BitVec.ofInt 64 (l.length : Int)) * 8#64)) ∧ g 5 = (i64 (-1)) ∧ g 6 = (ptr b6 0) ∧ g 7 = (ptr b7 0) ∧ g 8 = (i64 ((64 * m : Nat) : Int)) ∧ g 9 = (ptr b9 0) ∧ g 10 = (ptr b10 0) ∧ g 11 = (i64 (i : Int)) ∧ g 30 = (bl ((((l ++ 128#8 :: List.replicate ((119 - l.length % 64) % 64) 0#8).length : Int) % 64) != 56)) ∧ g 39 = (bl false) ∧ g 55 = (bl (decide (((64 * m : Nat) : Int) < (M.length : Int)))) ∧ Mem wv (restOf w0) ([(b10, .cells (cl u32 ([v0, v1, v2, v3, v4, v5, v6, v7])) 94 (0, 0)), (b9, .cells (cl u32 wl) 98 (0, 0)), (b7, .cells (cl u32 ([h0, h1, h2, h3, h4, h5, h6, h7])) 94 (0, 0)), (b6, .cells (cl u32 roundL) 98 (0, 0))] ++ (Hs43 ++ ([(b2, .cells (cl u8 (List.replicate 32 0)) 23 (0, 0))])))) (fun g wv => (64 - RowKit.intOf (g 11)).toNat) ?_ ?_
         · exact ⟨0, (List.replicate 64 0), h0, h1, h2, h3, h4, h5, h6, h7, oM, (schedGo_zero _).symm, (rndsGo_zero _ _).symm, s0, s2, s3, s4, s5, s6, s7, s8, rfl, rfl, rfl, s30, s39, rfl, hm59⟩
         · rintro fr60 w61 ⟨i, wl, v0, v1, v2, v3, v4, v5, v6, v7, hi, hw, hv, s0, s2, s3, s4, s5, s6, s7, s8, s9, s10, s11, s30, s39, s55, hm61⟩
           have z11 := s11
           have hwl : wl.length = 64 := by rw [hw]; simp
           refine cw_seq (sR ?_)
           refine rM rfl s11 <| rw_q rfl (ev_i64_lss (b := 64) rfl rfl) ?_
           refine rN ?_
           refine cw_cond rfl (fun hc62 => ?_) (fun hc62 => ?_)
           · -- true
             have hc62p := of_decide_eq_true hc62
             refine cw_skip (kThen_normal (cw_seq (cw_block (cw_seq (sR ?_)))))
             refine rM rfl s11 <| rw_q rfl (ev_i64_lss (b := 16) rfl rfl) ?_
             refine rN ?_
             refine cw_meet (J := fun g wv => ∃ (wn : List (BitVec 32)), (wn = schedGo ((M.drop (64 * m)).take 64) (i + 1)) ∧ g 0 = vb ∧ g 2 = (ptr b2 0) ∧ g 3 = sv43 ∧ g 4 = (u64 ((BitVec.ofInt 64 (l.length : Int)) * 8#64)) ∧ g 5 = (i64 (-1)) ∧ g 6 = (ptr b6 0) ∧ g 7 = (ptr b7 0) ∧ g 8 = (i64 ((64 * m : Nat) : Int)) ∧ g 9 = (ptr b9 0) ∧ g 10 = (ptr b10 0) ∧ g 11 = (i64 (i : Int)) ∧ g 30 = (bl ((((l ++ 128#8 :: List.replicate ((119 - l.length % 64) % 64) 0#8).length : Int) % 64) != 56)) ∧ g 39 = (bl false) ∧ g 55 = (bl (decide (((64 * m : Nat) : Int) < (M.length : Int)))) ∧ g 61 = (bl (decide ((i : Int) < 64))) ∧ g 65 = (bl (decide ((i : Int) < 16))) ∧ Mem wv (restOf w0) ([(b10, .cells (cl u32 ([v0, v1, v2, v3, v4, v5, v6, v7])) 94 (0, 0)), (b9, .cells (cl u32 wn) 98 (0, 0)), (b7, .cells (cl u32 ([h0, h1, h2, h3, h4, h5, h6, h7])) 94 (0, 0)), (b6, .cells (cl u32 roundL) 98 (0, 0))] ++ (Hs43 ++ ([(b2, .cells (cl u8 (List.replicate 32 0)) 23 (0, 0))])))) ?_ ?_
             · skip
               refine cw_cond rfl (fun hc63 => ?_) (fun hc63 => ?_)
               · -- true
                 have hc63p := of_decide_eq_true hc63
                 refine sR ?_
                 refine rw_q rfl (ev_assign (v := (i64 0)) rfl) ?_
                 refine rN (cw_block' ?_)
                 refine cw_rounds 5 ?_
                 refine cr_succ (cw_seq (sR ?_))
                 refine rw_q rfl (ev_move (v := (i64 0)) rfl) <| rw_q rfl (ev_i64_lss (a := 0) (b := 4) rfl rfl) ?_
                 refine rN ?_
                 refine cw_cond_t rfl (by decide) ?_
                 refine cw_skip (kThen_normal (cw_seq (cw_block ?_)))
                 refine cw_draw [(0, false), (1, false), (2, false), (3, false), (4, false), (5, false), (6, false), (7, false), (8, false), (9, false), (10, false), (11, false), (12, false), (13, false), (14, false), (15, false)] 16 (by kernel_rfl) <| dM rfl rfl s11 <| dM rfl rfl s11 <| dw_q rfl rfl (fun _ _hx => ev_ia_arr (r := i) oM uT98 ti55 s9 rfl oM sD) <| dw_q (v := (u32 (wl.getD i 0))) rfl rfl (fun _ _hx => ev_load1 uT55 rfl rfl (hm61.ext _hx).h1 (get_clD _ _ 0 sD)) <| dw_q rfl rfl (fun _ _hx => ev_u32_mul (b := 256#32) rfl rfl) ?_
                 refine dM rfl rfl s3 <| dM rfl rfl s8 <| dM rfl rfl s11 <| dw_q rfl rfl (fun _ _hx => ev_i64_mul (a := 4) rfl rfl oM oM) <| dw_q rfl rfl (fun _ _hx => ev_i64_add rfl rfl oM oM) <| dw_q rfl rfl (fun _ _hx => ev_move (v := (i64 0)) rfl) ?_
                 refine dw_q rfl rfl (fun _ _hx => ev_i64_add (b := 0) rfl rfl oM oM) <| dw_q rfl rfl (fun _ _hx => ev_indexAddr_rdv (gM46.rd (Mem.pick [_, _, _, _] Hs43 _ (hm61.ext _hx))) uT26 ti5 rfl rfl oM sD) <| dw_q (v := (u8 (M.getD (((((64 * m : Nat) : Int) + (4 * (i : Int))) + 0 : Int).toNat) 0))) rfl rfl (fun _ _hx => ev_load_rdD (l := M) (i := (((64 * m : Nat) : Int) + (4 * (i : Int))) + 0) (dflt := 0) (gM46.rd (Mem.pick [_, _, _, _] Hs43 _ (hm61.ext _hx))) uT5 rfl oM sD rfl) <| dw_q rfl rfl (fun _ _hx => ev_conv_u8_u32 ⟨_, uT5⟩ uT55 rfl) <| dw_q rfl rfl (fun _ _hx => ev_u32_add rfl rfl) ?_
                 refine dw_nil (fun w64 _ew64 => ?_)
                 have hm64 := hm61.ext _ew64
                 refine rw_q rfl (ev_ia_arr (r := i) oM uT98 ti55 s9 rfl oM sD) <| rw_n (or_store_cl (f := u32) (a := ((wl.getD i 0) * 256#32) + ((M.getD (((((64 * m : Nat) : Int) + (4 * (i : Int))) + 0 : Int).toNat) 0).setWidth 32)) u32_one ti55 rfl rfl hm64.h1 sD (.inl (Nat.zero_le _))) ?_
                 rintro _ w65 uq65
                 have hm65 := hm64.upd1 uq65
                 refine rw_nil (kBlk_normal ?_)
                 refine CW.abs (fun g => g 0 = vb ∧ g 2 = (ptr b2 0) ∧ g 3 = sv43 ∧ g 4 = (u64 ((BitVec.ofInt 64 (l.length : Int)) * 8#64)) ∧ g 5 = (i64 (-1)) ∧ g 6 = (ptr b6 0) ∧ g 7 = (ptr b7 0) ∧ g 8 = (i64 ((64 * m : Nat) : Int)) ∧ g 9 = (ptr b9 0) ∧ g 10 = (ptr b10 0) ∧ g 11 = (i64 (i : Int)) ∧ g 12 = (i64 0) ∧ g 30 = (bl ((((l ++ 128#8 :: List.replicate ((119 - l.length % 64) % 64) 0#8).length : Int) % 64) != 56)) ∧ g 39 = (bl false) ∧ g 55 = (bl (decide (((64 * m : Nat) : Int) < (M.length : Int)))) ∧ g 61 = (bl (decide ((i : Int) < 64))) ∧ g 65 = (bl (decide ((i : Int) < 16))) ∧ g 67 = (bl true) ∧ True) ⟨s0, s2, s3, s4, s5, s6, s7, s8, s9, s10, s11, rfl, s30, s39, s55, rfl, rfl, rfl, trivial⟩ ?_
                 rintro fr66 ⟨s0, s2, s3, s4, s5, s6, s7, s8, s9, s10, s11, s12, s30, s39, s55, s61, s65, s67, _⟩
                 refine cw_region <| rM rfl s12 <| rw_q (v := (i64 1)) rfl (ev_i64_add (a := 0) (b := 1) rfl rfl oM oM) <| rw_q rfl (ev_assign (v := (i64 1)) rfl) ?_
                 refine rN (cr_succ (cw_seq (sR ?_)))
                 refine rw_q rfl (ev_move (v := (i64 1)) rfl) <| rw_q rfl (ev_i64_lss (a := 1) (b := 4) rfl rfl) ?_
                 refine rN ?_
                 refine cw_cond_t rfl (by decide) ?_
                 refine cw_skip (kThen_normal (cw_seq (cw_block ?_)))
                 refine cw_draw [(0, false), (1, false), (2, false), (3, false), (4, false), (5, false), (6, false), (7, false), (8, false), (9, false), (10, false), (11, false), (12, false), (13, false), (14, false), (15, false)] 16 (by kernel_rfl) <| dM rfl rfl s11 <| dM rfl rfl s11 <| dw_q rfl rfl (fun _ _hx => ev_ia_arr (r := i) oM uT98 ti55 s9 rfl oM sD) <| dw_q (v := (u32 ((wl.set i (((wl.getD i 0) * 256#32) + ((M.getD (((((64 * m : Nat) : Int) + (4 * (i : Int))) + 0 : Int).toNat) 0).setWidth 32))).getD i 0))) rfl rfl (fun _ _hx => ev_load1 uT55 rfl rfl (hm65.ext _hx).h1 (get_clD _ _ 0 sD)) <| dw_q rfl rfl (fun _ _hx => ev_u32_mul (b := 256#32) rfl rfl) ?_
                 refine dM rfl rfl s3 <| dM rfl rfl s8 <| dM rfl rfl s11 <| dw_q rfl rfl (fun _ _hx => ev_i64_mul (a := 4) rfl rfl oM oM) <| dw_q rfl rfl (fun _ _hx => ev_i64_add rfl rfl oM oM) <| dw_q rfl rfl (fun _ _hx => ev_move (v := (i64 1)) rfl) ?_
                 refine dw_q rfl rfl (fun _ _hx => ev_i64_add (b := 1) rfl rfl oM oM) <| dw_q rfl rfl (fun _ _hx => ev_indexAddr_rdv (gM46.rd (Mem.pick [_, _, _, _] Hs43 _ (hm65.ext _hx))) uT26 ti5 rfl rfl oM sD) <| dw_q (v := (u8 (M.getD (((((64 * m : Nat) : Int) + (4 * (i : Int))) + 1 : Int).toNat) 0))) rfl rfl (fun _ _hx => ev_load_rdD (l := M) (i := (((64 * m : Nat) : Int) + (4 * (i : Int))) + 1) (dflt := 0) (gM46.rd (Mem.pick [_, _, _, _] Hs43 _ (hm65.ext _hx))) uT5 rfl oM sD rfl) <| dw_q rfl rfl (fun _ _hx => ev_conv_u8_u32 ⟨_, uT5⟩ uT55 rfl) <| dw_q rfl rfl (fun _ _hx => ev_u32_add rfl rfl) ?_
                 refine dw_nil (fun w67 _ew67 => ?_)
                 have hm67 := hm65.ext _ew67
                 refine rw_q rfl (ev_ia_arr (r := i) oM uT98 ti55 s9 rfl oM sD) <| rw_n (or_store_cl (f := u32) (a := (((wl.set i (((wl.getD i 0) * 256#32) + ((M.getD (((((64 * m : Nat) : Int) + (4 * (i : Int))) + 0 : Int).toNat) 0).setWidth 32))).getD i 0) * 256#32) + ((M.getD (((((64 * m : Nat) : Int) + (4 * (i : Int))) + 1 : Int).toNat) 0).setWidth 32)) u32_one ti55 rfl rfl hm67.h1 sD (.inl (Nat.zero_le _))) ?_
                 rintro _ w68 uq68
                 have hm68 := hm67.upd1 uq68
                 refine rw_nil (kBlk_normal ?_)
                 refine CW.abs (fun g => g 0 = vb ∧ g 2 = (ptr b2 0) ∧ g 3 = sv43 ∧ g 4 = (u64 ((BitVec.ofInt 64 (l.length : Int)) * 8#64)) ∧ g 5 = (i64 (-1)) ∧ g 6 = (ptr b6 0) ∧ g 7 = (ptr b7 0) ∧ g 8 = (i64 ((64 * m : Nat) : Int)) ∧ g 9 = (ptr b9 0) ∧ g 10 = (ptr b10 0) ∧ g 11 = (i64 (i : Int)) ∧ g 12 = (i64 1) ∧ g 30 = (bl ((((l ++ 128#8 :: List.replicate ((119 - l.length % 64) % 64) 0#8).length : Int) % 64) != 56)) ∧ g 39 = (bl false) ∧ g 55 = (bl (decide (((64 * m : Nat) : Int) < (M.length : Int)))) ∧ g 61 = (bl (decide ((i : Int) < 64))) ∧ g 65 = (bl (decide ((i : Int) < 16))) ∧ g 67 = (bl true) ∧ True) ⟨s0, s2, s3, s4, s5, s6, s7, s8, s9, s10, s11, rfl, s30, s39, s55, s61, s65, rfl, trivial⟩ ?_
                 rintro fr69 ⟨s0, s2, s3, s4, s5, s6, s7, s8, s9, s10, s11, s12, s30, s39, s55, s61, s65, s67, _⟩
                 refine cw_region <| rM rfl s12 <| rw_q (v := (i64 2)) rfl (ev_i64_add (a := 1) (b := 1) rfl rfl oM oM) <| rw_q rfl (ev_assign (v := (i64 2)) rfl) ?_
                 refine rN (cr_succ (cw_seq (sR ?_)))
                 refine rw_q rfl (ev_move (v := (i64 2)) rfl) <| rw_q rfl (ev_i64_lss (a := 2) (b := 4) rfl rfl) ?_
                 refine rN ?_
                 refine cw_cond_t rfl (by decide) ?_
                 refine cw_skip (kThen_normal (cw_seq (cw_block ?_)))
                 refine cw_draw [(0, false), (1, false), (2, false), (3, false), (4, false), (5, false), (6, false), (7, false), (8, false), (9, false), (10, false), (11, false), (12, false), (13, false), (14, false), (15, false)] 16 (by kernel_rfl) <| dM rfl rfl s11 <| dM rfl rfl s11 <| dw_q rfl rfl (fun _ _hx => ev_ia_arr (r := i) oM uT98 ti55 s9 rfl oM sD) <| dw_q (v := (u32 (((wl.set i (((wl.getD i 0) * 256#32) + ((M.getD (((((64 * m : Nat) : Int) + (4 * (i : Int))) + 0 : Int).toNat) 0).setWidth 32))).set i ((((wl.set i (((wl.getD i 0) * 256#32) + ((M.getD (((((64 * m : Nat) : Int) + (4 * (i : Int))) + 0 : Int).toNat) 0).setWidth 32))).getD i 0) * 256#32) + ((M.getD (((((64 * m : Nat) : Int) + (4 * (i : Int))) + 1 : Int).toNat) 0).setWidth 32))).getD i 0))) rfl rfl (fun _ _hx => ev_load1 uT55 rfl rfl (hm68.ext _hx).h1 (get_clD _ _ 0 sD)) <| dw_q rfl rfl (fun _ _hx => ev_u32_mul (b := 256#32) rfl rfl) ?_
                 refine dM rfl rfl s3 <| dM rfl rfl s8 <| dM rfl rfl s11 <| dw_q rfl rfl (fun _ _hx => ev_i64_mul (a := 4) rfl rfl oM oM) <| dw_q rfl rfl (fun _ _hx => ev_i64_add rfl rfl oM oM) <| dw_q rfl rfl (fun _ _hx => ev_move (v := (i64 2)) rfl) ?_
                 refine dw_q rfl rfl (fun _ _hx => ev_i64_add (b := 2) rfl rfl oM oM) <| dw_q rfl rfl (fun _ _hx => ev_indexAddr_rdv (gM46.rd (Mem.pick [_, _, _, _] Hs43 _ (hm68.ext _hx))) uT26 ti5 rfl rfl oM sD) <| dw_q (v := (u8 (M.getD (((((64 * m : Nat) : Int) + (4 * (i : Int))) + 2 : Int).toNat) 0))) rfl rfl (fun _ _hx => ev_load_rdD (l := M) (i := (((64 * m : Nat) : Int) + (4 * (i : Int))) + 2) (dflt := 0) (gM46.rd (Mem.pick [_, _, _, _] Hs43 _ (hm68.ext _hx))) uT5 rfl oM sD rfl) <| dw_q rfl rfl (fun _ _hx => ev_conv_u8_u32 ⟨_, uT5⟩ uT55 rfl) <| dw_q rfl rfl (fun _ _hx => ev_u32_add rfl rfl) ?_
                 refine dw_nil (fun w70 _ew70 => ?_)
                 have hm70 := hm68.ext _ew70
                 refine rw_q rfl (ev_ia_arr (r := i) oM uT98 ti55 s9 rfl oM sD) <| rw_n (or_store_cl (f := u32) (a := ((((wl.set i (((wl.getD i 0) * 256#32) + ((M.getD (((((64 * m : Nat) : Int) + (4 * (i : Int))) + 0 : Int).toNat) 0).setWidth 32))).set i ((((wl.set i (((wl.getD i 0) * 256#32) + ((M.getD (((((64 * m : Nat) : Int) + (4 * (i : Int))) + 0 : Int).toNat) 0).setWidth 32))).getD i 0) * 256#32) + ((M.getD (((((64 * m : Nat) : Int) + (4 * (i : Int))) + 1 : Int).toNat) 0).setWidth 32))).getD i 0) * 256#32) + ((M.getD (((((64 * m : Nat) : Int) + (4 * (i : Int))) + 2 : Int).toNat) 0).setWidth 32)) u32_one ti55 rfl rfl hm70.h1 sD (.inl (Nat.zero_le _))) ?_
                 rintro _ w71 uq71
                 have hm71 := hm70.upd1 uq71
                 refine rw_nil (kBlk_normal ?_)
                 refine CW.abs (fun g => g 0 = vb ∧ g 2 = (ptr b2 0) ∧ g 3 = sv43 ∧ g 4 = (u64 ((BitVec.ofInt 64 (l.length : Int)) * 8#64)) ∧ g 5 = (i64 (-1)) ∧ g 6 = (ptr b6 0) ∧ g 7 = (ptr b7 0) ∧ g 8 = (i64 ((64 * m : Nat) : Int)) ∧ g 9 = (ptr b9 0) ∧ g 10 = (ptr b10 0) ∧ g 11 = (i64 (i : Int)) ∧ g 12 = (i64 2) ∧ g 30 = (bl ((((l ++ 128#8 :: List.replicate ((119 - l.length % 64) % 64) 0#8).length : Int) % 64) != 56)) ∧ g 39 = (bl false) ∧ g 55 = (bl (decide (((64 * m : Nat) : Int) < (M.length : Int)))) ∧ g 61 = (bl (decide ((i : Int) < 64))) ∧ g 65 = (bl (decide ((i : Int) < 16))) ∧ g 67 = (bl true) ∧ True) ⟨s0, s2, s3, s4, s5, s6, s7, s8, s9, s10, s11, rfl, s30, s39, s55, s61, s65, rfl, trivial⟩ ?_
                 rintro fr72 ⟨s0, s2, s3, s4, s5, s6, s7, s8, s9, s10, s11, s12, s30, s39, s55, s61, s65, s67, _⟩
                 refine cw_region <| rM rfl s12 <| rw_q (v := (i64 3)) rfl (ev_i64_add (a := 2) (b := 1) rfl rfl oM oM) <| rw_q rfl (ev_assign (v := (i64 3)) rfl) ?_
                 refine rN (cr_succ (cw_seq (sR ?_)))
                 refine rw_q rfl (ev_move (v := (i64 3)) rfl) <| rw_q rfl (ev_i64_lss (a := 3) (b := 4) rfl rfl) ?_
                 refine rN ?_
                 refine cw_cond_t rfl (by decide) ?_
                 refine cw_skip (kThen_normal (cw_seq (cw_block ?_)))
                 refine cw_draw [(0, false), (1, false), (2, false), (3, false), (4, false), (5, false), (6, false), (7, false), (8, false), (9, false), (10, false), (11, false), (12, false), (13, false), (14, false), (15, false)] 16 (by kernel_rfl) <| dM rfl rfl s11 <| dM rfl rfl s11 <| dw_q rfl rfl (fun _ _hx => ev_ia_arr (r := i) oM uT98 ti55 s9 rfl oM sD) <| dw_q rfl rfl (fun _ _hx => ev_load1 uT55 rfl rfl (hm71.ext _hx).h1 (get_clD _ _ 0 sD)) <| dw_q rfl rfl (fun _ _hx => ev_u32_mul (b := 256#32) rfl rfl) ?_
                 refine dM rfl rfl s3 <| dM rfl rfl s8 <| dM rfl rfl s11 <| dw_q rfl rfl (fun _ _hx => ev_i64_mul (a := 4) rfl rfl oM oM) <| dw_q rfl rfl (fun _ _hx => ev_i64_add rfl rfl oM oM) <| dw_q rfl rfl (fun _ _hx => ev_move (v := (i64 3)) rfl) ?_
                 refine dw_q rfl rfl (fun _ _hx => ev_i64_add (b := 3) rfl rfl oM oM) <| dw_q rfl rfl (fun _ _hx => ev_indexAddr_rdv (gM46.rd (Mem.pick [_, _, _, _] Hs43 _ (hm71.ext _hx))) uT26 ti5 rfl rfl oM sD) <| dw_q (v := (u8 (M.getD (((((64 * m : Nat) : Int) + (4 * (i : Int))) + 3 : Int).toNat) 0))) rfl rfl (fun _ _hx => ev_load_rdD (l := M) (i := (((64 * m : Nat) : Int) + (4 * (i : Int))) + 3) (dflt := 0) (gM46.rd (Mem.pick [_, _, _, _] Hs43 _ (hm71.ext _hx))) uT5 rfl oM sD rfl) <| dw_q rfl rfl (fun _ _hx => ev_conv_u8_u32 ⟨_, uT5⟩ uT55 rfl) <| dw_q rfl rfl (fun _ _hx => ev_u32_add rfl rfl) ?_
                 refine dw_nil (fun w73 _ew73 => ?_)
                 have hm73 := hm71.ext _ew73
                 refine rw_q rfl (ev_ia_arr (r := i) oM uT98 ti55 s9 rfl oM sD) <| rw_n (or_store_cl (f := u32) (a := (((((wl.set i (((wl.getD i 0) * 256#32) + ((M.getD (((((64 * m : Nat) : Int) + (4 * (i : Int))) + 0 : Int).toNat) 0).setWidth 32))).set i ((((wl.set i (((wl.getD i 0) * 256#32) + ((M.getD (((((64 * m : Nat) : Int) + (4 * (i : Int))) + 0 : Int).toNat) 0).setWidth 32))).getD i 0) * 256#32) + ((M.getD (((((64 * m : Nat) : Int) + (4 * (i : Int))) + 1 : Int).toNat) 0).setWidth 32))).set i (((((wl.set i (((wl.getD i 0) * 256#32) + ((M.getD (((((64 * m : Nat) : Int) + (4 * (i : Int))) + 0 : Int).toNat) 0).setWidth 32))).set i ((((wl.set i (((wl.getD i 0) * 256#32) + ((M.getD (((((64 * m : Nat) : Int) + (4 * (i : Int))) + 0 : Int).toNat) 0).setWidth 32))).getD i 0) * 256#32) + ((M.getD (((((64 * m : Nat) : Int) + (4 * (i : Int))) + 1 : Int).toNat) 0).setWidth 32))).getD i 0) * 256#32) + ((M.getD (((((64 * m : Nat) : Int) + (4 * (i : Int))) + 2 : Int).toNat) 0).setWidth 32))).getD i 0) * 256#32) + ((M.getD (((((64 * m : Nat) : Int) + (4 * (i : Int))) + 3 : Int).toNat) 0).setWidth 32)) u32_one ti55 rfl rfl hm73.h1 sD (.inl (Nat.zero_le _))) ?_
                 rintro _ w74 uq74
                 have hm74 := hm73.upd1 uq74
                 refine rw_nil (kBlk_normal ?_)
                 refine CW.abs (fun g => g 0 = vb ∧ g 2 = (ptr b2 0) ∧ g 3 = sv43 ∧ g 4 = (u64 ((BitVec.ofInt 64 (l.length : Int)) * 8#64)) ∧ g 5 = (i64 (-1)) ∧ g 6 = (ptr b6 0) ∧ g 7 = (ptr b7 0) ∧ g 8 = (i64 ((64 * m : Nat) : Int)) ∧ g 9 = (ptr b9 0) ∧ g 10 = (ptr b10 0) ∧ g 11 = (i64 (i : Int)) ∧ g 12 = (i64 3) ∧ g 30 = (bl ((((l ++ 128#8 :: List.replicate ((119 - l.length % 64) % 64) 0#8).length : Int) % 64) != 56)) ∧ g 39 = (bl false) ∧ g 55 = (bl (decide (((64 * m : Nat) : Int) < (M.length : Int)))) ∧ g 61 = (bl (decide ((i : Int) < 64))) ∧ g 65 = (bl (decide ((i : Int) < 16))) ∧ g 67 = (bl true) ∧ True) ⟨s0, s2, s3, s4, s5, s6, s7, s8, s9, s10, s11, rfl, s30, s39, s55, s61, s65, rfl, trivial⟩ ?_
                 rintro fr75 ⟨s0, s2, s3, s4, s5, s6, s7, s8, s9, s10, s11, s12, s30, s39, s55, s61, s65, s67, _⟩
                 refine cw_region <| rM rfl s12 <| rw_q (v := (i64 4)) rfl (ev_i64_add (a := 3) (b := 1) rfl rfl oM oM) <| rw_q rfl (ev_assign (v := (i64 4)) rfl) ?_
                 refine rN (cr_succ (cw_seq (sR ?_)))
                 refine rw_q rfl (ev_move (v := (i64 4)) rfl) <| rw_q rfl (ev_i64_lss (a := 4) (b := 4) rfl rfl) ?_
                 refine rN ?_
                 refine cw_cond_f rfl (by decide) <| cw_exit ?_
                 refine kThen_exit (kThen_exit (kBlk_hit ?_))
                 refine kThen_normal ?_
                 have hwn : (((wl.set i (((wl.getD i 0) * 256#32) + ((M.getD (((((64 * m : Nat) : Int) + (4 * (i : Int))) + 0 : Int).toNat) 0).setWidth 32))).set i ((((wl.set i (((wl.getD i 0) * 256#32) + ((M.getD (((((64 * m : Nat) : Int) + (4 * (i : Int))) + 0 : Int).toNat) 0).setWidth 32))).getD i 0) * 256#32) + ((M.getD (((((64 * m : Nat) : Int) + (4 * (i : Int))) + 1 : Int).toNat) 0).setWidth 32))).set i (((((wl.set i (((wl.getD i 0) * 256#32) + ((M.getD (((((64 * m : Nat) : Int) + (4 * (i : Int))) + 0 : Int).toNat) 0).setWidth 32))).set i ((((wl.set i (((wl.getD i 0) * 256#32) + ((M.getD (((((64 * m : Nat) : Int) + (4 * (i : Int))) + 0 : Int).toNat) 0).setWidth 32))).getD i 0) * 256#32) + ((M.getD (((((64 * m : Nat) : Int) + (4 * (i : Int))) + 1 : Int).toNat) 0).setWidth 32))).getD i 0) * 256#32) + ((M.getD (((((64 * m : Nat) : Int) + (4 * (i : Int))) + 2 : Int).toNat) 0).setWidth 32))).set i ((((((wl.set i (((wl.getD i 0) * 256#32) + ((M.getD (((((64 * m : Nat) : Int) + (4 * (i : Int))) + 0 : Int).toNat) 0).setWidth 32))).set i ((((wl.set i (((wl.getD i 0) * 256#32) + ((M.getD (((((64 * m : Nat) : Int) + (4 * (i : Int))) + 0 : Int).toNat) 0).setWidth 32))).getD i 0) * 256#32) + ((M.getD (((((64 * m : Nat) : Int) + (4 * (i : Int))) + 1 : Int).toNat) 0).setWidth 32))).set i (((((wl.set i (((wl.getD i 0) * 256#32) + ((M.getD (((((64 * m : Nat) : Int) + (4 * (i : Int))) + 0 : Int).toNat) 0).setWidth 32))).set i ((((wl.set i (((wl.getD i 0) * 256#32) + ((M.getD (((((64 * m : Nat) : Int) + (4 * (i : Int))) + 0 : Int).toNat) 0).setWidth 32))).getD i 0) * 256#32) + ((M.getD (((((64 * m : Nat) : Int) + (4 * (i : Int))) + 1 : Int).toNat) 0).setWidth 32))).getD i 0) * 256#32) + ((M.getD (((((64 * m : Nat) : Int) + (4 * (i : Int))) + 2 : Int).toNat) 0).setWidth 32))).getD i 0) * 256#32) + ((M.getD (((((64 * m : Nat) : Int) + (4 * (i : Int))) + 3 : Int).toNat) 0).setWidth 32)) = schedGo ((M.drop (64 * m)).take 64) (i + 1) := by
                   have e0 : (((64 * m : Nat) : Int) + 4 * (i : Int) + 0).toNat = 64 * m + (4 * i + 0) := by omega
                   have e1 : (((64 * m : Nat) : Int) + 4 * (i : Int) + 1).toNat = 64 * m + (4 * i + 1) := by omega
                   have e2 : (((64 * m : Nat) : Int) + 4 * (i : Int) + 2).toNat = 64 * m + (4 * i + 2) := by omega
                   have e3 : (((64 * m : Nat) : Int) + 4 * (i : Int) + 3).toNat = 64 * m + (4 * i + 3) := by omega
                   simp only [e0, e1, e2, e3]
                   exact schedR_first ((M.drop (64 * m)).take 64) i oM _ _ _ _ (getD_blk M m (4 * i) oM oM) (getD_blk M m (4 * i + 1) oM oM) (getD_blk M m (4 * i + 2) oM oM) (getD_blk M m (4 * i + 3) oM oM) wl hw
                 exact ⟨((((wl.set i (((wl.getD i 0) * 256#32) + ((M.getD (((((64 * m : Nat) : Int) + (4 * (i : Int))) + 0 : Int).toNat) 0).setWidth 32))).set i ((((wl.set i (((wl.getD i 0) * 256#32) + ((M.getD (((((64 * m : Nat) : Int) + (4 * (i : Int))) + 0 : Int).toNat) 0).setWidth 32))).getD i 0) * 256#32) + ((M.getD (((((64 * m : Nat) : Int) + (4 * (i : Int))) + 1 : Int).toNat) 0).setWidth 32))).set i (((((wl.set i (((wl.getD i 0) * 256#32) + ((M.getD (((((64 * m : Nat) : Int) + (4 * (i : Int))) + 0 : Int).toNat) 0).setWidth 32))).set i ((((wl.set i (((wl.getD i 0) * 256#32) + ((M.getD (((((64 * m : Nat) : Int) + (4 * (i : Int))) + 0 : Int).toNat) 0).setWidth 32))).getD i 0) * 256#32) + ((M.getD (((((64 * m : Nat) : Int) + (4 * (i : Int))) + 1 : Int).toNat) 0).setWidth 32))).getD i 0) * 256#32) + ((M.getD (((((64 * m : Nat) : Int) + (4 * (i : Int))) + 2 : Int).toNat) 0).setWidth 32))).set i ((((((wl.set i (((wl.getD i 0) * 256#32) + ((M.getD (((((64 * m : Nat) : Int) + (4 * (i : Int))) + 0 : Int).toNat) 0).setWidth 32))).set i ((((wl.set i (((wl.getD i 0) * 256#32) + ((M.getD (((((64 * m : Nat) : Int) + (4 * (i : Int))) + 0 : Int).toNat) 0).setWidth 32))).getD i 0) * 256#32) + ((M.getD (((((64 * m : Nat) : Int) + (4 * (i : Int))) + 1 : Int).toNat) 0).setWidth 32))).set i (((((wl.set i (((wl.getD i 0) * 256#32) + ((M.getD (((((64 * m : Nat) : Int) + (4 * (i : Int))) + 0 : Int).toNat) 0).setWidth 32))).set i ((((wl.set i (((wl.getD i 0) * 256#32) + ((M.getD (((((64 * m : Nat) : Int) + (4 * (i : Int))) + 0 : Int).toNat) 0).setWidth 32))).getD i 0) * 256#32) + ((M.getD (((((64 * m : Nat) : Int) + (4 * (i : Int))) + 1 : Int).toNat) 0).setWidth 32))).getD i 0) * 256#32) + ((M.getD (((((64 * m : Nat) : Int) + (4 * (i : Int))) + 2 : Int).toNat) 0).setWidth 32))).getD i 0) * 256#32) + ((M.getD (((((64 * m : Nat) : Int) + (4 * (i : Int))) + 3 : Int).toNat) 0).setWidth 32))), hwn, s0, s2, s3, s4, s5, s6, s7, s8, s9, s10, s11, s30, s39, s55, s61, s65, hm74⟩
               · -- false
                 have hc63p := of_decide_eq_false hc63
                 refine cw_draw [(0, false), (1, false), (2, false), (3, false), (4, false), (5, false), (6, false), (7, false), (8, false), (9, false), (10, false), (11, false), (12, false), (13, false), (14, false), (15, false), (16, false), (17, false), (18, false), (19, false), (20, false), (21, false), (22, false), (23, false), (24, false), (25, false), (26, false), (27, false), (28, false), (29, false), (30, false), (31, false), (32, false), (33, false), (34, false), (35, false), (36, false), (37, false), (38, false), (39, false), (40, false), (41, false), (42, false), (43, false), (44, false), (45, false)] 46 (by kernel_rfl) <| dM rfl rfl s11 <| dM rfl rfl s11 <| dw_q rfl rfl (fun _ _hx => ev_i64_sub (b := 2) rfl rfl oM oM) <| dw_q rfl rfl (fun _ _hx => ev_ia_arr (r := ((i : Int) - 2 : Int).toNat) oM uT98 ti55 s9 rfl oM sD) <| dw_q (v := (u32 (wl.getD (((i : Int) - 2 : Int).toNat) 0))) rfl rfl (fun _ _hx => ev_load1 uT55 rfl rfl (hm61.ext _hx).h1 (get_clD _ _ 0 sD)) ?_
                 refine dw_x (v := (u32 (right3 (wl.getD (((i : Int) - 2 : Int).toNat) 0) (17 : Int)))) rfl rfl (fun w76 _ew76 => OpR.mono (opR_call Tryd.func65 bd65 nm65 (args2 rfl rfl) (c_right3 (wl.getD (((i : Int) - 2 : Int).toNat) 0) (17 : Int) _ sD sD)) (by rintro _ w77 ⟨rfl, _ew77⟩; exact ⟨rfl, _ew77⟩)) <| dM rfl rfl s11 <| dw_q rfl rfl (fun _ _hx => ev_i64_sub (b := 2) rfl rfl oM oM) <| dw_q rfl rfl (fun _ _hx => ev_ia_arr (r := ((i : Int) - 2 : Int).toNat) oM uT98 ti55 s9 rfl oM sD) <| dw_q (v := (u32 (wl.getD (((i : Int) - 2 : Int).toNat) 0))) rfl rfl (fun _ _hx => ev_load1 uT55 rfl rfl (hm61.ext _hx).h1 (get_clD _ _ 0 sD)) <| dw_x (v := (u32 (right3 (wl.getD (((i : Int) - 2 : Int).toNat) 0) (19 : Int)))) rfl rfl (fun w79 _ew79 => OpR.mono (opR_call Tryd.func65 bd65 nm65 (args2 rfl rfl) (c_right3 (wl.getD (((i : Int) - 2 : Int).toNat) 0) (19 : Int) _ sD sD)) (by rintro _ w80 ⟨rfl, _ew80⟩; exact ⟨rfl, _ew80⟩)) ?_
                 refine dw_q rfl rfl (fun _ _hx => ev_u32_xor rfl rfl) <| dM rfl rfl s11 <| dw_q rfl rfl (fun _ _hx => ev_i64_sub (b := 2) rfl rfl oM oM) <| dw_q rfl rfl (fun _ _hx => ev_ia_arr (r := ((i : Int) - 2 : Int).toNat) oM uT98 ti55 s9 rfl oM sD) <| dw_q (v := (u32 (wl.getD (((i : Int) - 2 : Int).toNat) 0))) rfl rfl (fun _ _hx => ev_load1 uT55 rfl rfl (hm61.ext _hx).h1 (get_clD _ _ 0 sD)) <| dw_q rfl rfl (fun _ _hx => ev_u32_shr (b := 10) rfl rfl oM) ?_
                 refine dw_q rfl rfl (fun _ _hx => ev_u32_xor rfl rfl) <| dM rfl rfl s11 <| dw_q rfl rfl (fun _ _hx => ev_i64_sub (b := 7) rfl rfl oM oM) <| dw_q rfl rfl (fun _ _hx => ev_ia_arr (r := ((i : Int) - 7 : Int).toNat) oM uT98 ti55 s9 rfl oM sD) <| dw_q (v := (u32 (wl.getD (((i : Int) - 7 : Int).toNat) 0))) rfl rfl (fun _ _hx => ev_load1 uT55 rfl rfl (hm61.ext _hx).h1 (get_clD _ _ 0 sD)) <| dw_q rfl rfl (fun _ _hx => ev_u32_add rfl rfl) ?_
                 refine dM rfl rfl s11 <| dw_q rfl rfl (fun _ _hx => ev_i64_sub (b := 15) rfl rfl oM oM) <| dw_q rfl rfl (fun _ _hx => ev_ia_arr (r := ((i : Int) - 15 : Int).toNat) oM uT98 ti55 s9 rfl oM sD) <| dw_q (v := (u32 (wl.getD (((i : Int) - 15 : Int).toNat) 0))) rfl rfl (fun _ _hx => ev_load1 uT55 rfl rfl (hm61.ext _hx).h1 (get_clD _ _ 0 sD)) <| dw_x (v := (u32 (right3 (wl.getD (((i : Int) - 15 : Int).toNat) 0) (7 : Int)))) rfl rfl (fun w82 _ew82 => OpR.mono (opR_call Tryd.func65 bd65 nm65 (args2 rfl rfl) (c_right3 (wl.getD (((i : Int) - 15 : Int).toNat) 0) (7 : Int) _ sD sD)) (by rintro _ w83 ⟨rfl, _ew83⟩; exact ⟨rfl, _ew83⟩)) <| dM rfl rfl s11 ?_
                 refine dw_q rfl rfl (fun _ _hx => ev_i64_sub (b := 15) rfl rfl oM oM) <| dw_q rfl rfl (fun _ _hx => ev_ia_arr (r := ((i : Int) - 15 : Int).toNat) oM uT98 ti55 s9 rfl oM sD) <| dw_q (v := (u32 (wl.getD (((i : Int) - 15 : Int).toNat) 0))) rfl rfl (fun _ _hx => ev_load1 uT55 rfl rfl (hm61.ext _hx).h1 (get_clD _ _ 0 sD)) <| dw_x (v := (u32 (right3 (wl.getD (((i : Int) - 15 : Int).toNat) 0) (18 : Int)))) rfl rfl (fun w85 _ew85 => OpR.mono (opR_call Tryd.func65 bd65 nm65 (args2 rfl rfl) (c_right3 (wl.getD (((i : Int) - 15 : Int).toNat) 0) (18 : Int) _ sD sD)) (by rintro _ w86 ⟨rfl, _ew86⟩; exact ⟨rfl, _ew86⟩)) <| dw_q rfl rfl (fun _ _hx => ev_u32_xor rfl rfl) <| dM rfl rfl s11 ?_
                 refine dw_q rfl rfl (fun _ _hx => ev_i64_sub (b := 15) rfl rfl oM oM) <| dw_q rfl rfl (fun _ _hx => ev_ia_arr (r := ((i : Int) - 15 : Int).toNat) oM uT98 ti55 s9 rfl oM sD) <| dw_q (v := (u32 (wl.getD (((i : Int) - 15 : Int).toNat) 0))) rfl rfl (fun _ _hx => ev_load1 uT55 rfl rfl (hm61.ext _hx).h1 (get_clD _ _ 0 sD)) <| dw_q rfl rfl (fun _ _hx => ev_u32_shr (b := 3) rfl rfl oM) <| dw_q rfl rfl (fun _ _hx => ev_u32_xor rfl rfl) <| dw_q rfl rfl (fun _ _hx => ev_u32_add rfl rfl) ?_
                 refine dM rfl rfl s11 <| dw_q rfl rfl (fun _ _hx => ev_i64_sub (b := 16) rfl rfl oM oM) <| dw_q rfl rfl (fun _ _hx => ev_ia_arr (r := ((i : Int) - 16 : Int).toNat) oM uT98 ti55 s9 rfl oM sD) <| dw_q (v := (u32 (wl.getD (((i : Int) - 16 : Int).toNat) 0))) rfl rfl (fun _ _hx => ev_load1 uT55 rfl rfl (hm61.ext _hx).h1 (get_clD _ _ 0 sD)) <| dw_q rfl rfl (fun _ _hx => ev_u32_add rfl rfl) ?_
                 refine dw_nil (fun w88 _ew88 => ?_)
                 have hm88 := hm61.ext _ew88
                 refine rw_q rfl (ev_ia_arr (r := i) oM uT98 ti55 s9 rfl oM sD) <| rw_n (or_store_cl (f := u32) (a := (((((right3 (wl.getD (((i : Int) - 2 : Int).toNat) 0) (17 : Int)) ^^^ (right3 (wl.getD (((i : Int) - 2 : Int).toNat) 0) (19 : Int))) ^^^ ((wl.getD (((i : Int) - 2 : Int).toNat) 0) >>> 10)) + (wl.getD (((i : Int) - 7 : Int).toNat) 0)) + (((right3 (wl.getD (((i : Int) - 15 : Int).toNat) 0) (7 : Int)) ^^^ (right3 (wl.getD (((i : Int) - 15 : Int).toNat) 0) (18 : Int))) ^^^ ((wl.getD (((i : Int) - 15 : Int).toNat) 0) >>> 3))) + (wl.getD (((i : Int) - 16 : Int).toNat) 0)) u32_one ti55 rfl rfl hm88.h1 sD (.inl (Nat.zero_le _))) ?_
                 rintro _ w89 uq89
                 have hm89 := hm88.upd1 uq89
                 refine rN ?_
                 have hwn : wl.set i ((((((right3 (wl.getD (((i : Int) - 2 : Int).toNat) 0) (17 : Int)) ^^^ (right3 (wl.getD (((i : Int) - 2 : Int).toNat) 0) (19 : Int))) ^^^ ((wl.getD (((i : Int) - 2 : Int).toNat) 0) >>> 10)) + (wl.getD (((i : Int) - 7 : Int).toNat) 0)) + (((right3 (wl.getD (((i : Int) - 15 : Int).toNat) 0) (7 : Int)) ^^^ (right3 (wl.getD (((i : Int) - 15 : Int).toNat) 0) (18 : Int))) ^^^ ((wl.getD (((i : Int) - 15 : Int).toNat) 0) >>> 3))) + (wl.getD (((i : Int) - 16 : Int).toNat) 0)) = schedGo ((M.drop (64 * m)).take 64) (i + 1) := by
                   have e16 : ((i : Int) - 16).toNat = i - 16 := by omega
                   have e7 : ((i : Int) - 7).toNat = i - 7 := by omega
                   have e15 : ((i : Int) - 15).toNat = i - 15 := by omega
                   have e2 : ((i : Int) - 2).toNat = i - 2 := by omega
                   simp only [e16, e7, e15, e2]
                   exact schedR_next ((M.drop (64 * m)).take 64) i oM oM wl hw
                 exact ⟨(wl.set i ((((((right3 (wl.getD (((i : Int) - 2 : Int).toNat) 0) (17 : Int)) ^^^ (right3 (wl.getD (((i : Int) - 2 : Int).toNat) 0) (19 : Int))) ^^^ ((wl.getD (((i : Int) - 2 : Int).toNat) 0) >>> 10)) + (wl.getD (((i : Int) - 7 : Int).toNat) 0)) + (((right3 (wl.getD (((i : Int) - 15 : Int).toNat) 0) (7 : Int)) ^^^ (right3 (wl.getD (((i : Int) - 15 : Int).toNat) 0) (18 : Int))) ^^^ ((wl.getD (((i : Int) - 15 : Int).toNat) 0) >>> 3))) + (wl.getD (((i : Int) - 16 : Int).toNat) 0))), hwn, s0, s2, s3, s4, s5, s6, s7, s8, s9, s10, s11, s30, s39, s55, rfl, rfl, hm89⟩
             · rintro fr90 w91 ⟨wn, hwn, s0, s2, s3, s4, s5, s6, s7, s8, s9, s10, s11, s30, s39, s55, s61, s65, hm91⟩
               have hwnl : wn.length = 64 := by rw [hwn, schedGo_length]
               refine sR ?_
               refine rw_q rfl (ev_ia_arr (r := 4) (i := 4) oM uT94 ti55 s10 rfl oM oM) <| rw_q (v := (u32 v4)) rfl (ev_load1 uT55 rfl rfl hm91.h0 (get_clD _ _ 0 (by simp))) <| rw_q rfl (ev_ia_arr (r := 5) (i := 5) oM uT94 ti55 s10 rfl oM oM) <| rw_q (v := (u32 v5)) rfl (ev_load1 uT55 rfl rfl hm91.h0 (get_clD _ _ 0 (by simp))) <| rw_q rfl (ev_u32_and rfl rfl) <| rw_q rfl (ev_ia_arr (r := 4) (i := 4) oM uT94 ti55 s10 rfl oM oM) ?_
               refine rw_q (v := (u32 v4)) rfl (ev_load1 uT55 rfl rfl hm91.h0 (get_clD _ _ 0 (by simp))) <| rw_q rfl (ev_u32_not rfl) <| rw_q rfl (ev_ia_arr (r := 6) (i := 6) oM uT94 ti55 s10 rfl oM oM) <| rw_q (v := (u32 v6)) rfl (ev_load1 uT55 rfl rfl hm91.h0 (get_clD _ _ 0 (by simp))) <| rw_q rfl (ev_u32_and rfl rfl) <| rw_q rfl (ev_u32_xor rfl rfl) ?_
               refine rw_q rfl (ev_assign (v := (u32 ((v4 &&& v5) ^^^ ((~~~v4) &&& v6)))) rfl) ?_
               refine rN ?_
               refine CW.abs (fun g => g 0 = vb ∧ g 2 = (ptr b2 0) ∧ g 3 = sv43 ∧ g 4 = (u64 ((BitVec.ofInt 64 (l.length : Int)) * 8#64)) ∧ g 5 = (i64 (-1)) ∧ g 6 = (ptr b6 0) ∧ g 7 = (ptr b7 0) ∧ g 8 = (i64 ((64 * m : Nat) : Int)) ∧ g 9 = (ptr b9 0) ∧ g 10 = (ptr b10 0) ∧ g 11 = (i64 (i : Int)) ∧ g 13 = (u32 ((v4 &&& v5) ^^^ ((~~~v4) &&& v6))) ∧ g 30 = (bl ((((l ++ 128#8 :: List.replicate ((119 - l.length % 64) % 64) 0#8).length : Int) % 64) != 56)) ∧ g 39 = (bl false) ∧ g 55 = (bl (decide (((64 * m : Nat) : Int) < (M.length : Int)))) ∧ g 61 = (bl (decide ((i : Int) < 64))) ∧ g 65 = (bl (decide ((i : Int) < 16))) ∧ True) ⟨s0, s2, s3, s4, s5, s6, s7, s8, s9, s10, s11, rfl, s30, s39, s55, s61, s65, trivial⟩ ?_
               rintro fr92 ⟨s0, s2, s3, s4, s5, s6, s7, s8, s9, s10, s11, s13, s30, s39, s55, s61, s65, _⟩
               refine sR ?_
               refine rw_q rfl (ev_ia_arr (r := 0) (i := 0) oM uT94 ti55 s10 rfl oM oM) <| rw_q (v := (u32 v0)) rfl (ev_load1 uT55 rfl rfl hm91.h0 (get_clD _ _ 0 (by simp))) <| rw_q rfl (ev_ia_arr (r := 1) (i := 1) oM uT94 ti55 s10 rfl oM oM) <| rw_q (v := (u32 v1)) rfl (ev_load1 uT55 rfl rfl hm91.h0 (get_clD _ _ 0 (by simp))) <| rw_q rfl (ev_u32_and rfl rfl) <| rw_q rfl (ev_ia_arr (r := 0) (i := 0) oM uT94 ti55 s10 rfl oM oM) ?_
               refine rw_q (v := (u32 v0)) rfl (ev_load1 uT55 rfl rfl hm91.h0 (get_clD _ _ 0 (by simp))) <| rw_q rfl (ev_ia_arr (r := 2) (i := 2) oM uT94 ti55 s10 rfl oM oM) <| rw_q (v := (u32 v2)) rfl (ev_load1 uT55 rfl rfl hm91.h0 (get_clD _ _ 0 (by simp))) <| rw_q rfl (ev_u32_and rfl rfl) <| rw_q rfl (ev_u32_xor rfl rfl) <| rw_q rfl (ev_ia_arr (r := 1) (i := 1) oM uT94 ti55 s10 rfl oM oM) ?_
               refine rw_q (v := (u32 v1)) rfl (ev_load1 uT55 rfl rfl hm91.h0 (get_clD _ _ 0 (by simp))) <| rw_q rfl (ev_ia_arr (r := 2) (i := 2) oM uT94 ti55 s10 rfl oM oM) <| rw_q (v := (u32 v2)) rfl (ev_load1 uT55 rfl rfl hm91.h0 (get_clD _ _ 0 (by simp))) <| rw_q rfl (ev_u32_and rfl rfl) <| rw_q rfl (ev_u32_xor rfl rfl) <| rw_q rfl (ev_assign (v := (u32 (((v0 &&& v1) ^^^ (v0 &&& v2)) ^^^ (v1 &&& v2)))) rfl) ?_
               refine rN ?_
               refine CW.abs (fun g => g 0 = vb ∧ g 2 = (ptr b2 0) ∧ g 3 = sv43 ∧ g 4 = (u64 ((BitVec.ofInt 64 (l.length : Int)) * 8#64)) ∧ g 5 = (i64 (-1)) ∧ g 6 = (ptr b6 0) ∧ g 7 = (ptr b7 0) ∧ g 8 = (i64 ((64 * m : Nat) : Int)) ∧ g 9 = (ptr b9 0) ∧ g 10 = (ptr b10 0) ∧ g 11 = (i64 (i : Int)) ∧ g 13 = (u32 ((v4 &&& v5) ^^^ ((~~~v4) &&& v6))) ∧ g 14 = (u32 (((v0 &&& v1) ^^^ (v0 &&& v2)) ^^^ (v1 &&& v2))) ∧ g 30 = (bl ((((l ++ 128#8 :: List.replicate ((119 - l.length % 64) % 64) 0#8).length : Int) % 64) != 56)) ∧ g 39 = (bl false) ∧ g 55 = (bl (decide (((64 * m : Nat) : Int) < (M.length : Int)))) ∧ g 61 = (bl (decide ((i : Int) < 64))) ∧ g 65 = (bl (decide ((i : Int) < 16))) ∧ True) ⟨s0, s2, s3, s4, s5, s6, s7, s8, s9, s10, s11, s13, rfl, s30, s39, s55, s61, s65, trivial⟩ ?_
               rintro fr93 ⟨s0, s2, s3, s4, s5, s6, s7, s8, s9, s10, s11, s13, s14, s30, s39, s55, s61, s65, _⟩
               refine cw_seq <| cw_draw [(0, false), (1, false), (2, false), (3, false), (4, false), (5, false), (6, false), (7, false), (8, false), (9, false), (10, false), (11, false), (12, false), (13, false), (14, false), (15, false), (16, false), (17, false), (18, false), (19, false), (20, false), (21, false), (22, false)] 23 (by kernel_rfl) <| dw_q rfl rfl (fun _ _hx => ev_ia_arr (r := 7) (i := 7) oM uT94 ti55 s10 rfl oM oM) <| dw_q (v := (u32 v7)) rfl rfl (fun _ _hx => ev_load1 uT55 rfl rfl (hm91.ext _hx).h0 (get_clD _ _ 0 (by simp))) <| dw_q rfl rfl (fun _ _hx => ev_ia_arr (r := 4) (i := 4) oM uT94 ti55 s10 rfl oM oM) <| dw_q (v := (u32 v4)) rfl rfl (fun _ _hx => ev_load1 uT55 rfl rfl (hm91.ext _hx).h0 (get_clD _ _ 0 (by simp))) ?_
               refine dw_x (v := (u32 (right3 v4 (6 : Int)))) rfl rfl (fun w94 _ew94 => OpR.mono (opR_call Tryd.func65 bd65 nm65 (args2 rfl rfl) (c_right3 v4 (6 : Int) _ sD sD)) (by rintro _ w95 ⟨rfl, _ew95⟩; exact ⟨rfl, _ew95⟩)) <| dw_q rfl rfl (fun _ _hx => ev_ia_arr (r := 4) (i := 4) oM uT94 ti55 s10 rfl oM oM) <| dw_q (v := (u32 v4)) rfl rfl (fun _ _hx => ev_load1 uT55 rfl rfl (hm91.ext _hx).h0 (get_clD _ _ 0 (by simp))) <| dw_x (v := (u32 (right3 v4 (11 : Int)))) rfl rfl (fun w97 _ew97 => OpR.mono (opR_call Tryd.func65 bd65 nm65 (args2 rfl rfl) (c_right3 v4 (11 : Int) _ sD sD)) (by rintro _ w98 ⟨rfl, _ew98⟩; exact ⟨rfl, _ew98⟩)) <| dw_q rfl rfl (fun _ _hx => ev_u32_xor rfl rfl) <| dw_q rfl rfl (fun _ _hx => ev_ia_arr (r := 4) (i := 4) oM uT94 ti55 s10 rfl oM oM) ?_
               refine dw_q (v := (u32 v4)) rfl rfl (fun _ _hx => ev_load1 uT55 rfl rfl (hm91.ext _hx).h0 (get_clD _ _ 0 (by simp))) <| dw_x (v := (u32 (right3 v4 (25 : Int)))) rfl rfl (fun w100 _ew100 => OpR.mono (opR_call Tryd.func65 bd65 nm65 (args2 rfl rfl) (c_right3 v4 (25 : Int) _ sD sD)) (by rintro _ w101 ⟨rfl, _ew101⟩; exact ⟨rfl, _ew101⟩)) <| dw_q rfl rfl (fun _ _hx => ev_u32_xor rfl rfl) <| dw_q rfl rfl (fun _ _hx => ev_u32_add rfl rfl) <| dM rfl rfl s13 <| dw_q rfl rfl (fun _ _hx => ev_u32_add rfl rfl) ?_
               refine dM rfl rfl s11 <| dw_q rfl rfl (fun _ _hx => ev_ia_arr (r := i) oM uT98 ti55 s6 rfl oM sD) <| dw_q (v := (u32 (roundL.getD i 0))) rfl rfl (fun _ _hx => ev_load1 uT55 rfl rfl (hm91.ext _hx).h3 (get_clD _ _ 0 sD)) <| dw_q rfl rfl (fun _ _hx => ev_u32_add rfl rfl) <| dM rfl rfl s11 <| dw_q rfl rfl (fun _ _hx => ev_ia_arr (r := i) oM uT98 ti55 s9 rfl oM sD) ?_
               refine dw_q (v := (u32 (wn.getD i 0))) rfl rfl (fun _ _hx => ev_load1 uT55 rfl rfl (hm91.ext _hx).h1 (get_clD _ _ 0 sD)) ?_
               refine dw_nil (fun w103 _ew103 => ?_)
               have hm103 := hm91.ext _ew103
               refine rw_q rfl (ev_u32_add rfl rfl) <| rA rfl rfl ?_
               refine rN ?_
               refine CW.abs (fun g => g 0 = vb ∧ g 2 = (ptr b2 0) ∧ g 3 = sv43 ∧ g 4 = (u64 ((BitVec.ofInt 64 (l.length : Int)) * 8#64)) ∧ g 5 = (i64 (-1)) ∧ g 6 = (ptr b6 0) ∧ g 7 = (ptr b7 0) ∧ g 8 = (i64 ((64 * m : Nat) : Int)) ∧ g 9 = (ptr b9 0) ∧ g 10 = (ptr b10 0) ∧ g 11 = (i64 (i : Int)) ∧ g 13 = (u32 ((v4 &&& v5) ^^^ ((~~~v4) &&& v6))) ∧ g 14 = (u32 (((v0 &&& v1) ^^^ (v0 &&& v2)) ^^^ (v1 &&& v2))) ∧ g 15 = (u32 ((((v7 + (((right3 v4 (6 : Int)) ^^^ (right3 v4 (11 : Int))) ^^^ (right3 v4 (25 : Int)))) + ((v4 &&& v5) ^^^ ((~~~v4) &&& v6))) + (roundL.getD i 0)) + (wn.getD i 0))) ∧ g 30 = (bl ((((l ++ 128#8 :: List.replicate ((119 - l.length % 64) % 64) 0#8).length : Int) % 64) != 56)) ∧ g 39 = (bl false) ∧ g 55 = (bl (decide (((64 * m : Nat) : Int) < (M.length : Int)))) ∧ g 61 = (bl (decide ((i : Int) < 64))) ∧ g 65 = (bl (decide ((i : Int) < 16))) ∧ True) ⟨s0, s2, s3, s4, s5, s6, s7, s8, s9, s10, s11, s13, s14, rfl, s30, s39, s55, s61, s65, trivial⟩ ?_
               rintro fr104 ⟨s0, s2, s3, s4, s5, s6, s7, s8, s9, s10, s11, s13, s14, s15, s30, s39, s55, s61, s65, _⟩
               refine cw_seq <| cw_draw [(0, false), (1, false), (2, false), (3, false), (4, false), (5, false), (6, false), (7, false), (8, false), (9, false), (10, false), (11, false)] 12 (by kernel_rfl) <| dw_q rfl rfl (fun _ _hx => ev_ia_arr (r := 0) (i := 0) oM uT94 ti55 s10 rfl oM oM) <| dw_q (v := (u32 v0)) rfl rfl (fun _ _hx => ev_load1 uT55 rfl rfl (hm103.ext _hx).h0 (get_clD _ _ 0 (by simp))) <| dw_x (v := (u32 (right3 v0 (2 : Int)))) rfl rfl (fun w105 _ew105 => OpR.mono (opR_call Tryd.func65 bd65 nm65 (args2 rfl rfl) (c_right3 v0 (2 : Int) _ sD sD)) (by rintro _ w106 ⟨rfl, _ew106⟩; exact ⟨rfl, _ew106⟩)) <| dw_q rfl rfl (fun _ _hx => ev_ia_arr (r := 0) (i := 0) oM uT94 ti55 s10 rfl oM oM) ?_
               refine dw_q (v := (u32 v0)) rfl rfl (fun _ _hx => ev_load1 uT55 rfl rfl (hm103.ext _hx).h0 (get_clD _ _ 0 (by simp))) <| dw_x (v := (u32 (right3 v0 (13 : Int)))) rfl rfl (fun w108 _ew108 => OpR.mono (opR_call Tryd.func65 bd65 nm65 (args2 rfl rfl) (c_right3 v0 (13 : Int) _ sD sD)) (by rintro _ w109 ⟨rfl, _ew109⟩; exact ⟨rfl, _ew109⟩)) <| dw_q rfl rfl (fun _ _hx => ev_u32_xor rfl rfl) <| dw_q rfl rfl (fun _ _hx => ev_ia_arr (r := 0) (i := 0) oM uT94 ti55 s10 rfl oM oM) <| dw_q (v := (u32 v0)) rfl rfl (fun _ _hx => ev_load1 uT55 rfl rfl (hm103.ext _hx).h0 (get_clD _ _ 0 (by simp))) <| dw_x (v := (u32 (right3 v0 (22 : Int)))) rfl rfl (fun w111 _ew111 => OpR.mono (opR_call Tryd.func65 bd65 nm65 (args2 rfl rfl) (c_right3 v0 (22 : Int) _ sD sD)) (by rintro _ w112 ⟨rfl, _ew112⟩; exact ⟨rfl, _ew112⟩)) ?_
               refine dw_q rfl rfl (fun _ _hx => ev_u32_xor rfl rfl) <| dM rfl rfl s14 ?_
               refine dw_nil (fun w114 _ew114 => ?_)
               have hm114 := hm103.ext _ew114
               refine rw_q rfl (ev_u32_add rfl rfl) <| rA rfl rfl ?_
               refine rN ?_
               refine CW.abs (fun g => g 0 = vb ∧ g 2 = (ptr b2 0) ∧ g 3 = sv43 ∧ g 4 = (u64 ((BitVec.ofInt 64 (l.length : Int)) * 8#64)) ∧ g 5 = (i64 (-1)) ∧ g 6 = (ptr b6 0) ∧ g 7 = (ptr b7 0) ∧ g 8 = (i64 ((64 * m : Nat) : Int)) ∧ g 9 = (ptr b9 0) ∧ g 10 = (ptr b10 0) ∧ g 11 = (i64 (i : Int)) ∧ g 13 = (u32 ((v4 &&& v5) ^^^ ((~~~v4) &&& v6))) ∧ g 14 = (u32 (((v0 &&& v1) ^^^ (v0 &&& v2)) ^^^ (v1 &&& v2))) ∧ g 15 = (u32 ((((v7 + (((right3 v4 (6 : Int)) ^^^ (right3 v4 (11 : Int))) ^^^ (right3 v4 (25 : Int)))) + ((v4 &&& v5) ^^^ ((~~~v4) &&& v6))) + (roundL.getD i 0)) + (wn.getD i 0))) ∧ g 16 = (u32 ((((right3 v0 (2 : Int)) ^^^ (right3 v0 (13 : Int))) ^^^ (right3 v0 (22 : Int))) + (((v0 &&& v1) ^^^ (v0 &&& v2)) ^^^ (v1 &&& v2)))) ∧ g 30 = (bl ((((l ++ 128#8 :: List.replicate ((119 - l.length % 64) % 64) 0#8).length : Int) % 64) != 56)) ∧ g 39 = (bl false) ∧ g 55 = (bl (decide (((64 * m : Nat) : Int) < (M.length : Int)))) ∧ g 61 = (bl (decide ((i : Int) < 64))) ∧ g 65 = (bl (decide ((i : Int) < 16))) ∧ True) ⟨s0, s2, s3, s4, s5, s6, s7, s8, s9, s10, s11, s13, s14, s15, rfl, s30, s39, s55, s61, s65, trivial⟩ ?_
               rintro fr115 ⟨s0, s2, s3, s4, s5, s6, s7, s8, s9, s10, s11, s13, s14, s15, s16, s30, s39, s55, s61, s65, _⟩
               refine cw_seq (sR ?_)
               refine rw_q rfl (ev_assign (v := (i64 7)) rfl) ?_
               refine rN (cw_block ?_)
               refine cw_rounds 8 ?_
               refine cr_succ (cw_seq (sR ?_))
               refine rw_q rfl (ev_move (v := (i64 7)) rfl) <| rw_q rfl (ev_i64_gtr (a := 7) (b := 0) rfl rfl) ?_
               refine rN ?_
               refine cw_cond_t rfl (by decide) ?_
               refine cw_skip (kThen_normal (cw_seq (cw_block (cw_region ?_))))
               refine rw_q rfl (ev_move (v := (i64 7)) rfl) <| rw_q rfl (ev_move (v := (i64 7)) rfl) <| rw_q (v := (i64 6)) rfl (ev_i64_sub (a := 7) (b := 1) rfl rfl oM oM) <| rw_q rfl (ev_ia_arr (r := 6) (i := 6) oM uT94 ti55 s10 rfl oM oM) <| rw_q (v := (u32 v6)) rfl (ev_load1 uT55 rfl rfl hm114.h0 (get_clD _ _ 0 (by simp))) <| rw_q rfl (ev_ia_arr (r := 7) (i := 7) oM uT94 ti55 s10 rfl oM oM) ?_
               refine rw_n (or_store_cl' (f := u32) (l' := [v0, v1, v2, v3, v4, v5, v6, v6]) rfl u32_one ti55 rfl rfl hm114.h0 (by simp) (.inl (Nat.zero_le _))) ?_
               rintro _ w116 uq116
               have hm116 := hm114.upd0 uq116
               refine rw_nil (kBlk_normal (cw_region ?_))
               refine rw_q rfl (ev_move (v := (i64 7)) rfl) <| rw_q (v := (i64 6)) rfl (ev_i64_sub (a := 7) (b := 1) rfl rfl oM oM) <| rw_q rfl (ev_assign (v := (i64 6)) rfl) ?_
               refine rN ?_
               refine CR.abs (fun g => g 0 = vb ∧ g 2 = (ptr b2 0) ∧ g 3 = sv43 ∧ g 4 = (u64 ((BitVec.ofInt 64 (l.length : Int)) * 8#64)) ∧ g 5 = (i64 (-1)) ∧ g 6 = (ptr b6 0) ∧ g 7 = (ptr b7 0) ∧ g 8 = (i64 ((64 * m : Nat) : Int)) ∧ g 9 = (ptr b9 0) ∧ g 10 = (ptr b10 0) ∧ g 11 = (i64 (i : Int)) ∧ g 13 = (u32 ((v4 &&& v5) ^^^ ((~~~v4) &&& v6))) ∧ g 14 = (u32 (((v0 &&& v1) ^^^ (v0 &&& v2)) ^^^ (v1 &&& v2))) ∧ g 15 = (u32 ((((v7 + (((right3 v4 (6 : Int)) ^^^ (right3 v4 (11 : Int))) ^^^ (right3 v4 (25 : Int)))) + ((v4 &&& v5) ^^^ ((~~~v4) &&& v6))) + (roundL.getD i 0)) + (wn.getD i 0))) ∧ g 16 = (u32 ((((right3 v0 (2 : Int)) ^^^ (right3 v0 (13 : Int))) ^^^ (right3 v0 (22 : Int))) + (((v0 &&& v1) ^^^ (v0 &&& v2)) ^^^ (v1 &&& v2)))) ∧ g 17 = (i64 6) ∧ g 30 = (bl ((((l ++ 128#8 :: List.replicate ((119 - l.length % 64) % 64) 0#8).length : Int) % 64) != 56)) ∧ g 39 = (bl false) ∧ g 55 = (bl (decide (((64 * m : Nat) : Int) < (M.length : Int)))) ∧ g 61 = (bl (decide ((i : Int) < 64))) ∧ g 65 = (bl (decide ((i : Int) < 16))) ∧ g 201 = (bl true) ∧ True) ⟨s0, s2, s3, s4, s5, s6, s7, s8, s9, s10, s11, s13, s14, s15, s16, rfl, s30, s39, s55, s61, s65, rfl, trivial⟩ ?_
               rintro fr117 ⟨s0, s2, s3, s4, s5, s6, s7, s8, s9, s10, s11, s13, s14, s15, s16, s17, s30, s39, s55, s61, s65, s201, _⟩
               refine cr_succ (cw_seq (sR ?_))
               refine rM rfl s17 <| rw_q rfl (ev_i64_gtr (a := 6) (b := 0) rfl rfl) ?_
               refine rN ?_
               refine cw_cond_t rfl (by decide) ?_
               refine cw_skip (kThen_normal (cw_seq (cw_block (cw_region ?_))))
               refine rM rfl s17 <| rM rfl s17 <| rw_q (v := (i64 5)) rfl (ev_i64_sub (a := 6) (b := 1) rfl rfl oM oM) <| rw_q rfl (ev_ia_arr (r := 5) (i := 5) oM uT94 ti55 s10 rfl oM oM) <| rw_q (v := (u32 v5)) rfl (ev_load1 uT55 rfl rfl hm116.h0 (get_clD _ _ 0 (by simp))) <| rw_q rfl (ev_ia_arr (r := 6) (i := 6) oM uT94 ti55 s10 rfl oM oM) ?_
               refine rw_n (or_store_cl' (f := u32) (l' := [v0, v1, v2, v3, v4, v5, v5, v6]) rfl u32_one ti55 rfl rfl hm116.h0 (by simp) (.inl (Nat.zero_le _))) ?_
               rintro _ w118 uq118
               have hm118 := hm116.upd0 uq118
               refine rw_nil (kBlk_normal (cw_region ?_))
               refine rM rfl s17 <| rw_q (v := (i64 5)) rfl (ev_i64_sub (a := 6) (b := 1) rfl rfl oM oM) <| rw_q rfl (ev_assign (v := (i64 5)) rfl) ?_
               refine rN ?_
               refine CR.abs (fun g => g 0 = vb ∧ g 2 = (ptr b2 0) ∧ g 3 = sv43 ∧ g 4 = (u64 ((BitVec.ofInt 64 (l.length : Int)) * 8#64)) ∧ g 5 = (i64 (-1)) ∧ g 6 = (ptr b6 0) ∧ g 7 = (ptr b7 0) ∧ g 8 = (i64 ((64 * m : Nat) : Int)) ∧ g 9 = (ptr b9 0) ∧ g 10 = (ptr b10 0) ∧ g 11 = (i64 (i : Int)) ∧ g 13 = (u32 ((v4 &&& v5) ^^^ ((~~~v4) &&& v6))) ∧ g 14 = (u32 (((v0 &&& v1) ^^^ (v0 &&& v2)) ^^^ (v1 &&& v2))) ∧ g 15 = (u32 ((((v7 + (((right3 v4 (6 : Int)) ^^^ (right3 v4 (11 : Int))) ^^^ (right3 v4 (25 : Int)))) + ((v4 &&& v5) ^^^ ((~~~v4) &&& v6))) + (roundL.getD i 0)) + (wn.getD i 0))) ∧ g 16 = (u32 ((((right3 v0 (2 : Int)) ^^^ (right3 v0 (13 : Int))) ^^^ (right3 v0 (22 : Int))) + (((v0 &&& v1) ^^^ (v0 &&& v2)) ^^^ (v1 &&& v2)))) ∧ g 17 = (i64 5) ∧ g 30 = (bl ((((l ++ 128#8 :: List.replicate ((119 - l.length % 64) % 64) 0#8).length : Int) % 64) != 56)) ∧ g 39 = (bl false) ∧ g 55 = (bl (decide (((64 * m : Nat) : Int) < (M.length : Int)))) ∧ g 61 = (bl (decide ((i : Int) < 64))) ∧ g 65 = (bl (decide ((i : Int) < 16))) ∧ g 201 = (bl true) ∧ True) ⟨s0, s2, s3, s4, s5, s6, s7, s8, s9, s10, s11, s13, s14, s15, s16, rfl, s30, s39, s55, s61, s65, rfl, trivial⟩ ?_
               rintro fr119 ⟨s0, s2, s3, s4, s5, s6, s7, s8, s9, s10, s11, s13, s14, s15, s16, s17, s30, s39, s55, s61, s65, s201, _⟩
               refine cr_succ (cw_seq (sR ?_))
               refine rM rfl s17 <| rw_q rfl (ev_i64_gtr (a := 5) (b := 0) rfl rfl) ?_
               refine rN ?_
               refine cw_cond_t rfl (by decide) ?_
               refine cw_skip (kThen_normal (cw_seq (cw_block (cw_region ?_))))
               refine rM rfl s17 <| rM rfl s17 <| rw_q (v := (i64 4)) rfl (ev_i64_sub (a := 5) (b := 1) rfl rfl oM oM) <| rw_q rfl (ev_ia_arr (r := 4) (i := 4) oM uT94 ti55 s10 rfl oM oM) <| rw_q (v := (u32 v4)) rfl (ev_load1 uT55 rfl rfl hm118.h0 (get_clD _ _ 0 (by simp))) <| rw_q rfl (ev_ia_arr (r := 5) (i := 5) oM uT94 ti55 s10 rfl oM oM) ?_
               refine rw_n (or_store_cl' (f := u32) (l' := [v0, v1, v2, v3, v4, v4, v5, v6]) rfl u32_one ti55 rfl rfl hm118.h0 (by simp) (.inl (Nat.zero_le _))) ?_
               rintro _ w120 uq120
               have hm120 := hm118.upd0 uq120
               refine rw_nil (kBlk_normal (cw_region ?_))
               refine rM rfl s17 <| rw_q (v := (i64 4)) rfl (ev_i64_sub (a := 5) (b := 1) rfl rfl oM oM) <| rw_q rfl (ev_assign (v := (i64 4)) rfl) ?_
               refine rN ?_
               refine CR.abs (fun g => g 0 = vb ∧ g 2 = (ptr b2 0) ∧ g 3 = sv43 ∧ g 4 = (u64 ((BitVec.ofInt 64 (l.length : Int)) * 8#64)) ∧ g 5 = (i64 (-1)) ∧ g 6 = (ptr b6 0) ∧ g 7 = (ptr b7 0) ∧ g 8 = (i64 ((64 * m : Nat) : Int)) ∧ g 9 = (ptr b9 0) ∧ g 10 = (ptr b10 0) ∧ g 11 = (i64 (i : Int)) ∧ g 13 = (u32 ((v4 &&& v5) ^^^ ((~~~v4) &&& v6))) ∧ g 14 = (u32 (((v0 &&& v1) ^^^ (v0 &&& v2)) ^^^ (v1 &&& v2))) ∧ g 15 = (u32 ((((v7 + (((right3 v4 (6 : Int)) ^^^ (right3 v4 (11 : Int))) ^^^ (right3 v4 (25 : Int)))) + ((v4 &&& v5) ^^^ ((~~~v4) &&& v6))) + (roundL.getD i 0)) + (wn.getD i 0))) ∧ g 16 = (u32 ((((right3 v0 (2 : Int)) ^^^ (right3 v0 (13 : Int))) ^^^ (right3 v0 (22 : Int))) + (((v0 &&& v1) ^^^ (v0 &&& v2)) ^^^ (v1 &&& v2)))) ∧ g 17 = (i64 4) ∧ g 30 = (bl ((((l ++ 128#8 :: List.replicate ((119 - l.length % 64) % 64) 0#8).length : Int) % 64) != 56)) ∧ g 39 = (bl false) ∧ g 55 = (bl (decide (((64 * m : Nat) : Int) < (M.length : Int)))) ∧ g 61 = (bl (decide ((i : Int) < 64))) ∧ g 65 = (bl (decide ((i : Int) < 16))) ∧ g 201 = (bl true) ∧ True) ⟨s0, s2, s3, s4, s5, s6, s7, s8, s9, s10, s11, s13, s14, s15, s16, rfl, s30, s39, s55, s61, s65, rfl, trivial⟩ ?_
               rintro fr121 ⟨s0, s2, s3, s4, s5, s6, s7, s8, s9, s10, s11, s13, s14, s15, s16, s17, s30, s39, s55, s61, s65, s201, _⟩
               refine cr_succ (cw_seq (sR ?_))
               refine rM rfl s17 <| rw_q rfl (ev_i64_gtr (a := 4) (b := 0) rfl rfl) ?_
               refine rN ?_
               refine cw_cond_t rfl (by decide) ?_
               refine cw_skip (kThen_normal (cw_seq (cw_block (cw_region ?_))))
               refine rM rfl s17 <| rM rfl s17 <| rw_q (v := (i64 3)) rfl (ev_i64_sub (a := 4) (b := 1) rfl rfl oM oM) <| rw_q rfl (ev_ia_arr (r := 3) (i := 3) oM uT94 ti55 s10 rfl oM oM) <| rw_q (v := (u32 v3)) rfl (ev_load1 uT55 rfl rfl hm120.h0 (get_clD _ _ 0 (by simp))) <| rw_q rfl (ev_ia_arr (r := 4) (i := 4) oM uT94 ti55 s10 rfl oM oM) ?_
               refine rw_n (or_store_cl' (f := u32) (l' := [v0, v1, v2, v3, v3, v4, v5, v6]) rfl u32_one ti55 rfl rfl hm120.h0 (by simp) (.inl (Nat.zero_le _))) ?_
               rintro _ w122 uq122
               have hm122 := hm120.upd0 uq122
               refine rw_nil (kBlk_normal (cw_region ?_))
               refine rM rfl s17 <| rw_q (v := (i64 3)) rfl (ev_i64_sub (a := 4) (b := 1) rfl rfl oM oM) <| rw_q rfl (ev_assign (v := (i64 3)) rfl) ?_
               refine rN ?_
               refine CR.abs (fun g => g 0 = vb ∧ g 2 = (ptr b2 0) ∧ g 3 = sv43 ∧ g 4 = (u64 ((BitVec.ofInt 64 (l.length : Int)) * 8#64)) ∧ g 5 = (i64 (-1)) ∧ g 6 = (ptr b6 0) ∧ g 7 = (ptr b7 0) ∧ g 8 = (i64 ((64 * m : Nat) : Int)) ∧ g 9 = (ptr b9 0) ∧ g 10 = (ptr b10 0) ∧ g 11 = (i64 (i : Int)) ∧ g 13 = (u32 ((v4 &&& v5) ^^^ ((~~~v4) &&& v6))) ∧ g 14 = (u32 (((v0 &&& v1) ^^^ (v0 &&& v2)) ^^^ (v1 &&& v2))) ∧ g 15 = (u32 ((((v7 + (((right3 v4 (6 : Int)) ^^^ (right3 v4 (11 : Int))) ^^^ (right3 v4 (25 : Int)))) + ((v4 &&& v5) ^^^ ((~~~v4) &&& v6))) + (roundL.getD i 0)) + (wn.getD i 0))) ∧ g 16 = (u32 ((((right3 v0 (2 : Int)) ^^^ (right3 v0 (13 : Int))) ^^^ (right3 v0 (22 : Int))) + (((v0 &&& v1) ^^^ (v0 &&& v2)) ^^^ (v1 &&& v2)))) ∧ g 17 = (i64 3) ∧ g 30 = (bl ((((l ++ 128#8 :: List.replicate ((119 - l.length % 64) % 64) 0#8).length : Int) % 64) != 56)) ∧ g 39 = (bl false) ∧ g 55 = (bl (decide (((64 * m : Nat) : Int) < (M.length : Int)))) ∧ g 61 = (bl (decide ((i : Int) < 64))) ∧ g 65 = (bl (decide ((i : Int) < 16))) ∧ g 201 = (bl true) ∧ True) ⟨s0, s2, s3, s4, s5, s6, s7, s8, s9, s10, s11, s13, s14, s15, s16, rfl, s30, s39, s55, s61, s65, rfl, trivial⟩ ?_
               rintro fr123 ⟨s0, s2, s3, s4, s5, s6, s7, s8, s9, s10, s11, s13, s14, s15, s16, s17, s30, s39, s55, s61, s65, s201, _⟩
               refine cr_succ (cw_seq (sR ?_))
               refine rM rfl s17 <| rw_q rfl (ev_i64_gtr (a := 3) (b := 0) rfl rfl) ?_
               refine rN ?_
               refine cw_cond_t rfl (by decide) ?_
               refine cw_skip (kThen_normal (cw_seq (cw_block (cw_region ?_))))
               refine rM rfl s17 <| rM rfl s17 <| rw_q (v := (i64 2)) rfl (ev_i64_sub (a := 3) (b := 1) rfl rfl oM oM) <| rw_q rfl (ev_ia_arr (r := 2) (i := 2) oM uT94 ti55 s10 rfl oM oM) <| rw_q (v := (u32 v2)) rfl (ev_load1 uT55 rfl rfl hm122.h0 (get_clD _ _ 0 (by simp))) <| rw_q rfl (ev_ia_arr (r := 3) (i := 3) oM uT94 ti55 s10 rfl oM oM) ?_
               refine rw_n (or_store_cl' (f := u32) (l' := [v0, v1, v2, v2, v3, v4, v5, v6]) rfl u32_one ti55 rfl rfl hm122.h0 (by simp) (.inl (Nat.zero_le _))) ?_
               rintro _ w124 uq124
               have hm124 := hm122.upd0 uq124
               refine rw_nil (kBlk_normal (cw_region ?_))
               refine rM rfl s17 <| rw_q (v := (i64 2)) rfl (ev_i64_sub (a := 3) (b := 1) rfl rfl oM oM) <| rw_q rfl (ev_assign (v := (i64 2)) rfl) ?_
               refine rN ?_
               refine CR.abs (fun g => g 0 = vb ∧ g 2 = (ptr b2 0) ∧ g 3 = sv43 ∧ g 4 = (u64 ((BitVec.ofInt 64 (l.length : Int)) * 8#64)) ∧ g 5 = (i64 (-1)) ∧ g 6 = (ptr b6 0) ∧ g 7 = (ptr b7 0) ∧ g 8 = (i64 ((64 * m : Nat) : Int)) ∧ g 9 = (ptr b9 0) ∧ g 10 = (ptr b10 0) ∧ g 11 = (i64 (i : Int)) ∧ g 13 = (u32 ((v4 &&& v5) ^^^ ((~~~v4) &&& v6))) ∧ g 14 = (u32 (((v0 &&& v1) ^^^ (v0 &&& v2)) ^^^ (v1 &&& v2))) ∧ g 15 = (u32 ((((v7 + (((right3 v4 (6 : Int)) ^^^ (right3 v4 (11 : Int))) ^^^ (right3 v4 (25 : Int)))) + ((v4 &&& v5) ^^^ ((~~~v4) &&& v6))) + (roundL.getD i 0)) + (wn.getD i 0))) ∧ g 16 = (u32 ((((right3 v0 (2 : Int)) ^^^ (right3 v0 (13 : Int))) ^^^ (right3 v0 (22 : Int))) + (((v0 &&& v1) ^^^ (v0 &&& v2)) ^^^ (v1 &&& v2)))) ∧ g 17 = (i64 2) ∧ g 30 = (bl ((((l ++ 128#8 :: List.replicate ((119 - l.length % 64) % 64) 0#8).length : Int) % 64) != 56)) ∧ g 39 = (bl false) ∧ g 55 = (bl (decide (((64 * m : Nat) : Int) < (M.length : Int)))) ∧ g 61 = (bl (decide ((i : Int) < 64))) ∧ g 65 = (bl (decide ((i : Int) < 16))) ∧ g 201 = (bl true) ∧ True) ⟨s0, s2, s3, s4, s5, s6, s7, s8, s9, s10, s11, s13, s14, s15, s16, rfl, s30, s39, s55, s61, s65, rfl, trivial⟩ ?_
               rintro fr125 ⟨s0, s2, s3, s4, s5, s6, s7, s8, s9, s10, s11, s13, s14, s15, s16, s17, s30, s39, s55, s61, s65, s201, _⟩
               refine cr_succ (cw_seq (sR ?_))
               refine rM rfl s17 <| rw_q rfl (ev_i64_gtr (a := 2) (b := 0) rfl rfl) ?_
               refine rN ?_
               refine cw_cond_t rfl (by decide) ?_
               refine cw_skip (kThen_normal (cw_seq (cw_block (cw_region ?_))))
               refine rM rfl s17 <| rM rfl s17 <| rw_q (v := (i64 1)) rfl (ev_i64_sub (a := 2) (b := 1) rfl rfl oM oM) <| rw_q rfl (ev_ia_arr (r := 1) (i := 1) oM uT94 ti55 s10 rfl oM oM) <| rw_q (v := (u32 v1)) rfl (ev_load1 uT55 rfl rfl hm124.h0 (get_clD _ _ 0 (by simp))) <| rw_q rfl (ev_ia_arr (r := 2) (i := 2) oM uT94 ti55 s10 rfl oM oM) ?_
               refine rw_n (or_store_cl' (f := u32) (l' := [v0, v1, v1, v2, v3, v4, v5, v6]) rfl u32_one ti55 rfl rfl hm124.h0 (by simp) (.inl (Nat.zero_le _))) ?_
               rintro _ w126 uq126
               have hm126 := hm124.upd0 uq126
               refine rw_nil (kBlk_normal (cw_region ?_))
               refine rM rfl s17 <| rw_q (v := (i64 1)) rfl (ev_i64_sub (a := 2) (b := 1) rfl rfl oM oM) <| rw_q rfl (ev_assign (v := (i64 1)) rfl) ?_
               refine rN ?_
               refine CR.abs (fun g => g 0 = vb ∧ g 2 = (ptr b2 0) ∧ g 3 = sv43 ∧ g 4 = (u64 ((BitVec.ofInt 64 (l.length : Int)) * 8#64)) ∧ g 5 = (i64 (-1)) ∧ g 6 = (ptr b6 0) ∧ g 7 = (ptr b7 0) ∧ g 8 = (i64 ((64 * m : Nat) : Int)) ∧ g 9 = (ptr b9 0) ∧ g 10 = (ptr b10 0) ∧ g 11 = (i64 (i : Int)) ∧ g 13 = (u32 ((v4 &&& v5) ^^^ ((~~~v4) &&& v6))) ∧ g 14 = (u32 (((v0 &&& v1) ^^^ (v0 &&& v2)) ^^^ (v1 &&& v2))) ∧ g 15 = (u32 ((((v7 + (((right3 v4 (6 : Int)) ^^^ (right3 v4 (11 : Int))) ^^^ (right3 v4 (25 : Int)))) + ((v4 &&& v5) ^^^ ((~~~v4) &&& v6))) + (roundL.getD i 0)) + (wn.getD i 0))) ∧ g 16 = (u32 ((((right3 v0 (2 : Int)) ^^^ (right3 v0 (13 : Int))) ^^^ (right3 v0 (22 : Int))) + (((v0 &&& v1) ^^^ (v0 &&& v2)) ^^^ (v1 &&& v2)))) ∧ g 17 = (i64 1) ∧ g 30 = (bl ((((l ++ 128#8 :: List.replicate ((119 - l.length % 64) % 64) 0#8).length : Int) % 64) != 56)) ∧ g 39 = (bl false) ∧ g 55 = (bl (decide (((64 * m : Nat) : Int) < (M.length : Int)))) ∧ g 61 = (bl (decide ((i : Int) < 64))) ∧ g 65 = (bl (decide ((i : Int) < 16))) ∧ g 201 = (bl true) ∧ True) ⟨s0, s2, s3, s4, s5, s6, s7, s8, s9, s10, s11, s13, s14, s15, s16, rfl, s30, s39, s55, s61, s65, rfl, trivial⟩ ?_
               rintro fr127 ⟨s0, s2, s3, s4, s5, s6, s7, s8, s9, s10, s11, s13, s14, s15, s16, s17, s30, s39, s55, s61, s65, s201, _⟩
               refine cr_succ (cw_seq (sR ?_))
               refine rM rfl s17 <| rw_q rfl (ev_i64_gtr (a := 1) (b := 0) rfl rfl) ?_
               refine rN ?_
               refine cw_cond_t rfl (by decide) ?_
               refine cw_skip (kThen_normal (cw_seq (cw_block (cw_region ?_))))
               refine rM rfl s17 <| rM rfl s17 <| rw_q (v := (i64 0)) rfl (ev_i64_sub (a := 1) (b := 1) rfl rfl oM oM) <| rw_q rfl (ev_ia_arr (r := 0) (i := 0) oM uT94 ti55 s10 rfl oM oM) <| rw_q (v := (u32 v0)) rfl (ev_load1 uT55 rfl rfl hm126.h0 (get_clD _ _ 0 (by simp))) <| rw_q rfl (ev_ia_arr (r := 1) (i := 1) oM uT94 ti55 s10 rfl oM oM) ?_
               refine rw_n (or_store_cl' (f := u32) (l' := [v0, v0, v1, v2, v3, v4, v5, v6]) rfl u32_one ti55 rfl rfl hm126.h0 (by simp) (.inl (Nat.zero_le _))) ?_
               rintro _ w128 uq128
               have hm128 := hm126.upd0 uq128
               refine rw_nil (kBlk_normal (cw_region ?_))
               refine rM rfl s17 <| rw_q (v := (i64 0)) rfl (ev_i64_sub (a := 1) (b := 1) rfl rfl oM oM) <| rw_q rfl (ev_assign (v := (i64 0)) rfl) ?_
               refine rN ?_
               refine CR.abs (fun g => g 0 = vb ∧ g 2 = (ptr b2 0) ∧ g 3 = sv43 ∧ g 4 = (u64 ((BitVec.ofInt 64 (l.length : Int)) * 8#64)) ∧ g 5 = (i64 (-1)) ∧ g 6 = (ptr b6 0) ∧ g 7 = (ptr b7 0) ∧ g 8 = (i64 ((64 * m : Nat) : Int)) ∧ g 9 = (ptr b9 0) ∧ g 10 = (ptr b10 0) ∧ g 11 = (i64 (i : Int)) ∧ g 13 = (u32 ((v4 &&& v5) ^^^ ((~~~v4) &&& v6))) ∧ g 14 = (u32 (((v0 &&& v1) ^^^ (v0 &&& v2)) ^^^ (v1 &&& v2))) ∧ g 15 = (u32 ((((v7 + (((right3 v4 (6 : Int)) ^^^ (right3 v4 (11 : Int))) ^^^ (right3 v4 (25 : Int)))) + ((v4 &&& v5) ^^^ ((~~~v4) &&& v6))) + (roundL.getD i 0)) + (wn.getD i 0))) ∧ g 16 = (u32 ((((right3 v0 (2 : Int)) ^^^ (right3 v0 (13 : Int))) ^^^ (right3 v0 (22 : Int))) + (((v0 &&& v1) ^^^ (v0 &&& v2)) ^^^ (v1 &&& v2)))) ∧ g 17 = (i64 0) ∧ g 30 = (bl ((((l ++ 128#8 :: List.replicate ((119 - l.length % 64) % 64) 0#8).length : Int) % 64) != 56)) ∧ g 39 = (bl false) ∧ g 55 = (bl (decide (((64 * m : Nat) : Int) < (M.length : Int)))) ∧ g 61 = (bl (decide ((i : Int) < 64))) ∧ g 65 = (bl (decide ((i : Int) < 16))) ∧ g 201 = (bl true) ∧ True) ⟨s0, s2, s3, s4, s5, s6, s7, s8, s9, s10, s11, s13, s14, s15, s16, rfl, s30, s39, s55, s61, s65, rfl, trivial⟩ ?_
               rintro fr129 ⟨s0, s2, s3, s4, s5, s6, s7, s8, s9, s10, s11, s13, s14, s15, s16, s17, s30, s39, s55, s61, s65, s201, _⟩
               refine cr_succ (cw_seq (sR ?_))
               refine rM rfl s17 <| rw_q rfl (ev_i64_gtr (a := 0) (b := 0) rfl rfl) ?_
               refine rN ?_
               refine cw_cond_f rfl (by decide) <| cw_exit ?_
               refine kThen_exit (kThen_exit (kBlk_hit ?_))
               refine sR ?_
               refine rw_q rfl (ev_ia_arr (r := 4) (i := 4) oM uT94 ti55 s10 rfl oM oM) <| rw_q (v := (u32 v3)) rfl (ev_load1 uT55 rfl rfl hm128.h0 (get_clD _ _ 0 (by simp))) <| rM rfl s15 <| rw_q rfl (ev_u32_add rfl rfl) <| rw_q rfl (ev_ia_arr (r := 4) (i := 4) oM uT94 ti55 s10 rfl oM oM) <| rw_n (or_store_cl' (f := u32) (l' := [v0, v0, v1, v2, v3 + ((((v7 + (((right3 v4 (6 : Int)) ^^^ (right3 v4 (11 : Int))) ^^^ (right3 v4 (25 : Int)))) + ((v4 &&& v5) ^^^ ((~~~v4) &&& v6))) + (roundL.getD i 0)) + (wn.getD i 0)), v4, v5, v6]) rfl u32_one ti55 rfl rfl hm128.h0 (by simp) (.inl (Nat.zero_le _))) ?_
               rintro _ w130 uq130
               have hm130 := hm128.upd0 uq130
               refine rN (cw_region ?_)
               refine rM rfl s15 <| rM rfl s16 <| rw_q rfl (ev_u32_add rfl rfl) <| rw_q rfl (ev_ia_arr (r := 0) (i := 0) oM uT94 ti55 s10 rfl oM oM) <| rw_n (or_store_cl' (f := u32) (l' := [((((v7 + (((right3 v4 (6 : Int)) ^^^ (right3 v4 (11 : Int))) ^^^ (right3 v4 (25 : Int)))) + ((v4 &&& v5) ^^^ ((~~~v4) &&& v6))) + (roundL.getD i 0)) + (wn.getD i 0)) + ((((right3 v0 (2 : Int)) ^^^ (right3 v0 (13 : Int))) ^^^ (right3 v0 (22 : Int))) + (((v0 &&& v1) ^^^ (v0 &&& v2)) ^^^ (v1 &&& v2))), v0, v1, v2, v3 + ((((v7 + (((right3 v4 (6 : Int)) ^^^ (right3 v4 (11 : Int))) ^^^ (right3 v4 (25 : Int)))) + ((v4 &&& v5) ^^^ ((~~~v4) &&& v6))) + (roundL.getD i 0)) + (wn.getD i 0)), v4, v5, v6]) rfl u32_one ti55 rfl rfl hm130.h0 (by simp) (.inl (Nat.zero_le _))) ?_
               rintro _ w131 uq131
               have hm131 := hm130.upd0 uq131
               refine rw_nil (kBlk_normal ?_)
               refine CW.abs (fun g => g 0 = vb ∧ g 2 = (ptr b2 0) ∧ g 3 = sv43 ∧ g 4 = (u64 ((BitVec.ofInt 64 (l.length : Int)) * 8#64)) ∧ g 5 = (i64 (-1)) ∧ g 6 = (ptr b6 0) ∧ g 7 = (ptr b7 0) ∧ g 8 = (i64 ((64 * m : Nat) : Int)) ∧ g 9 = (ptr b9 0) ∧ g 10 = (ptr b10 0) ∧ g 11 = (i64 (i : Int)) ∧ g 13 = (u32 ((v4 &&& v5) ^^^ ((~~~v4) &&& v6))) ∧ g 14 = (u32 (((v0 &&& v1) ^^^ (v0 &&& v2)) ^^^ (v1 &&& v2))) ∧ g 15 = (u32 ((((v7 + (((right3 v4 (6 : Int)) ^^^ (right3 v4 (11 : Int))) ^^^ (right3 v4 (25 : Int)))) + ((v4 &&& v5) ^^^ ((~~~v4) &&& v6))) + (roundL.getD i 0)) + (wn.getD i 0))) ∧ g 16 = (u32 ((((right3 v0 (2 : Int)) ^^^ (right3 v0 (13 : Int))) ^^^ (right3 v0 (22 : Int))) + (((v0 &&& v1) ^^^ (v0 &&& v2)) ^^^ (v1 &&& v2)))) ∧ g 17 = (i64 0) ∧ g 30 = (bl ((((l ++ 128#8 :: List.replicate ((119 - l.length % 64) % 64) 0#8).length : Int) % 64) != 56)) ∧ g 39 = (bl false) ∧ g 55 = (bl (decide (((64 * m : Nat) : Int) < (M.length : Int)))) ∧ g 61 = (bl (decide ((i : Int) < 64))) ∧ g 65 = (bl (decide ((i : Int) < 16))) ∧ g 201 = (bl false) ∧ True) ⟨s0, s2, s3, s4, s5, s6, s7, s8, s9, s10, s11, s13, s14, s15, s16, s17, s30, s39, s55, s61, s65, rfl, trivial⟩ ?_
               rintro fr132 ⟨s0, s2, s3, s4, s5, s6, s7, s8, s9, s10, s11, s13, s14, s15, s16, s17, s30, s39, s55, s61, s65, s201, _⟩
               refine cw_region <| rM rfl s11 <| rw_q rfl (ev_i64_add (b := 1) rfl rfl oM oM) <| rw_q rfl (ev_assign (v := (i64 ((i : Int) + 1))) rfl) ?_
               refine rN ?_
               have hwi : wn.getD i 0 = (schedP ((M.drop (64 * m)).take 64)).getD i 0 := by rw [hwn]; exact sched_stays ((M.drop (64 * m)).take 64) i oM
               have hvn : [((((v7 + (((right3 v4 (6 : Int)) ^^^ (right3 v4 (11 : Int))) ^^^ (right3 v4 (25 : Int)))) + ((v4 &&& v5) ^^^ ((~~~v4) &&& v6))) + (roundL.getD i 0)) + (wn.getD i 0)) + ((((right3 v0 (2 : Int)) ^^^ (right3 v0 (13 : Int))) ^^^ (right3 v0 (22 : Int))) + (((v0 &&& v1) ^^^ (v0 &&& v2)) ^^^ (v1 &&& v2))), v0, v1, v2, v3 + ((((v7 + (((right3 v4 (6 : Int)) ^^^ (right3 v4 (11 : Int))) ^^^ (right3 v4 (25 : Int)))) + ((v4 &&& v5) ^^^ ((~~~v4) &&& v6))) + (roundL.getD i 0)) + (wn.getD i 0)), v4, v5, v6] = rndsGo (schedP ((M.drop (64 * m)).take 64)) (i + 1) [h0, h1, h2, h3, h4, h5, h6, h7] := by
                 rw [rndsGo_succ, ← hv, ← hwi]; exact rndR _ _ _ _ _ _ _ _ _ _
               exact ⟨⟨i + 1, wn, (((((v7 + (((right3 v4 (6 : Int)) ^^^ (right3 v4 (11 : Int))) ^^^ (right3 v4 (25 : Int)))) + ((v4 &&& v5) ^^^ ((~~~v4) &&& v6))) + (roundL.getD i 0)) + (wn.getD i 0)) + ((((right3 v0 (2 : Int)) ^^^ (right3 v0 (13 : Int))) ^^^ (right3 v0 (22 : Int))) + (((v0 &&& v1) ^^^ (v0 &&& v2)) ^^^ (v1 &&& v2)))), v0, v1, v2, (v3 + ((((v7 + (((right3 v4 (6 : Int)) ^^^ (right3 v4 (11 : Int))) ^^^ (right3 v4 (25 : Int)))) + ((v4 &&& v5) ^^^ ((~~~v4) &&& v6))) + (roundL.getD i 0)) + (wn.getD i 0))), v4, v5, v6, oM, hwn, hvn, s0, s2, s3, s4, s5, s6, s7, s8, s9, s10, rfl, s30, s39, s55, hm131⟩, meas rfl z11 oM oM⟩
           · -- false
             have hc62p := of_decide_eq_false hc62
             obtain rfl : i = 64 := by omega
             refine cw_exit ?_
             refine kThen_exit (kThen_exit (kBlk_hit ?_))
             refine sR ?_
             refine rw_q rfl (ev_assign (v := (i64 0)) rfl) ?_
             refine rN (cw_block' ?_)
             refine cw_rounds 9 ?_
             refine cr_succ (cw_seq (sR ?_))
             refine rw_q rfl (ev_move (v := (i64 0)) rfl) <| rw_q rfl (ev_i64_lss (a := 0) (b := 8) rfl rfl) ?_
             refine rN ?_
             refine cw_cond_t rfl (by decide) ?_
             refine cw_skip (kThen_normal (cw_seq (cw_block ?_)))
             refine cw_draw [(0, false), (1, false), (2, false), (3, false), (4, false), (5, false)] 6 (by kernel_rfl) <| dw_q rfl rfl (fun _ _hx => ev_move (v := (i64 0)) rfl) <| dw_q rfl rfl (fun _ _hx => ev_ia_arr (r := 0) (i := 0) oM uT94 ti55 s7 rfl oM oM) <| dw_q (v := (u32 h0)) rfl rfl (fun _ _hx => ev_load1 uT55 rfl rfl (hm61.ext _hx).h2 (get_clD _ _ 0 (by simp))) <| dw_q rfl rfl (fun _ _hx => ev_move (v := (i64 0)) rfl) <| dw_q rfl rfl (fun _ _hx => ev_ia_arr (r := 0) (i := 0) oM uT94 ti55 s10 rfl oM oM) ?_
             refine dw_q (v := (u32 v0)) rfl rfl (fun _ _hx => ev_load1 uT55 rfl rfl (hm61.ext _hx).h0 (get_clD _ _ 0 (by simp))) ?_
             refine dw_nil (fun w133 _ew133 => ?_)
             have hm133 := hm61.ext _ew133
             refine rw_q rfl (ev_u32_add rfl rfl) <| rw_q rfl (ev_ia_arr (r := 0) (i := 0) oM uT94 ti55 s7 rfl oM oM) <| rw_n (or_store_cl' (f := u32) (l' := [h0 + v0, h1, h2, h3, h4, h5, h6, h7]) rfl u32_one ti55 rfl rfl hm133.h2 (by simp) (.inl (Nat.zero_le _))) ?_
             rintro _ w134 uq134
             have hm134 := hm133.upd2 uq134
             refine rw_nil (kBlk_normal ?_)
             refine CW.abs (fun g => g 0 = vb ∧ g 2 = (ptr b2 0) ∧ g 3 = sv43 ∧ g 4 = (u64 ((BitVec.ofInt 64 (l.length : Int)) * 8#64)) ∧ g 5 = (i64 (-1)) ∧ g 6 = (ptr b6 0) ∧ g 7 = (ptr b7 0) ∧ g 8 = (i64 ((64 * m : Nat) : Int)) ∧ g 9 = (ptr b9 0) ∧ g 10 = (ptr b10 0) ∧ g 11 = (i64 (64 : Int)) ∧ g 18 = (i64 0) ∧ g 30 = (bl ((((l ++ 128#8 :: List.replicate ((119 - l.length % 64) % 64) 0#8).length : Int) % 64) != 56)) ∧ g 39 = (bl false) ∧ g 55 = (bl (decide (((64 * m : Nat) : Int) < (M.length : Int)))) ∧ g 61 = (bl (decide ((64 : Int) < 64))) ∧ g 220 = (bl true) ∧ True) ⟨s0, s2, s3, s4, s5, s6, s7, s8, s9, s10, s11, rfl, s30, s39, s55, rfl, rfl, trivial⟩ ?_
             rintro fr135 ⟨s0, s2, s3, s4, s5, s6, s7, s8, s9, s10, s11, s18, s30, s39, s55, s61, s220, _⟩
             refine cw_region <| rM rfl s18 <| rw_q (v := (i64 1)) rfl (ev_i64_add (a := 0) (b := 1) rfl rfl oM oM) <| rw_q rfl (ev_assign (v := (i64 1)) rfl) ?_
             refine rN (cr_succ (cw_seq (sR ?_)))
             refine rw_q rfl (ev_move (v := (i64 1)) rfl) <| rw_q rfl (ev_i64_lss (a := 1) (b := 8) rfl rfl) ?_
             refine rN ?_
             refine cw_cond_t rfl (by decide) ?_
             refine cw_skip (kThen_normal (cw_seq (cw_block ?_)))
             refine cw_draw [(0, false), (1, false), (2, false), (3, false), (4, false), (5, false)] 6 (by kernel_rfl) <| dw_q rfl rfl (fun _ _hx => ev_move (v := (i64 1)) rfl) <| dw_q rfl rfl (fun _ _hx => ev_ia_arr (r := 1) (i := 1) oM uT94 ti55 s7 rfl oM oM) <| dw_q (v := (u32 h1)) rfl rfl (fun _ _hx => ev_load1 uT55 rfl rfl (hm134.ext _hx).h2 (get_clD _ _ 0 (by simp))) <| dw_q rfl rfl (fun _ _hx => ev_move (v := (i64 1)) rfl) <| dw_q rfl rfl (fun _ _hx => ev_ia_arr (r := 1) (i := 1) oM uT94 ti55 s10 rfl oM oM) ?_
             refine dw_q (v := (u32 v1)) rfl rfl (fun _ _hx => ev_load1 uT55 rfl rfl (hm134.ext _hx).h0 (get_clD _ _ 0 (by simp))) ?_
             refine dw_nil (fun w136 _ew136 => ?_)
             have hm136 := hm134.ext _ew136
             refine rw_q rfl (ev_u32_add rfl rfl) <| rw_q rfl (ev_ia_arr (r := 1) (i := 1) oM uT94 ti55 s7 rfl oM oM) <| rw_n (or_store_cl' (f := u32) (l' := [h0 + v0, h1 + v1, h2, h3, h4, h5, h6, h7]) rfl u32_one ti55 rfl rfl hm136.h2 (by simp) (.inl (Nat.zero_le _))) ?_
             rintro _ w137 uq137
             have hm137 := hm136.upd2 uq137
             refine rw_nil (kBlk_normal ?_)
             refine CW.abs (fun g => g 0 = vb ∧ g 2 = (ptr b2 0) ∧ g 3 = sv43 ∧ g 4 = (u64 ((BitVec.ofInt 64 (l.length : Int)) * 8#64)) ∧ g 5 = (i64 (-1)) ∧ g 6 = (ptr b6 0) ∧ g 7 = (ptr b7 0) ∧ g 8 = (i64 ((64 * m : Nat) : Int)) ∧ g 9 = (ptr b9 0) ∧ g 10 = (ptr b10 0) ∧ g 11 = (i64 (64 : Int)) ∧ g 18 = (i64 1) ∧ g 30 = (bl ((((l ++ 128#8 :: List.replicate ((119 - l.length % 64) % 64) 0#8).length : Int) % 64) != 56)) ∧ g 39 = (bl false) ∧ g 55 = (bl (decide (((64 * m : Nat) : Int) < (M.length : Int)))) ∧ g 61 = (bl (decide ((64 : Int) < 64))) ∧ g 220 = (bl true) ∧ True) ⟨s0, s2, s3, s4, s5, s6, s7, s8, s9, s10, s11, rfl, s30, s39, s55, s61, rfl, trivial⟩ ?_
             rintro fr138 ⟨s0, s2, s3, s4, s5, s6, s7, s8, s9, s10, s11, s18, s30, s39, s55, s61, s220, _⟩
             refine cw_region <| rM rfl s18 <| rw_q (v := (i64 2)) rfl (ev_i64_add (a := 1) (b := 1) rfl rfl oM oM) <| rw_q rfl (ev_assign (v := (i64 2)) rfl) ?_
             refine rN (cr_succ (cw_seq (sR ?_)))
             refine rw_q rfl (ev_move (v := (i64 2)) rfl) <| rw_q rfl (ev_i64_lss (a := 2) (b := 8) rfl rfl) ?_
             refine rN ?_
             refine cw_cond_t rfl (by decide) ?_
             refine cw_skip (kThen_normal (cw_seq (cw_block ?_)))
             refine cw_draw [(0, false), (1, false), (2, false), (3, false), (4, false), (5, false)] 6 (by kernel_rfl) <| dw_q rfl rfl (fun _ _hx => ev_move (v := (i64 2)) rfl) <| dw_q rfl rfl (fun _ _hx => ev_ia_arr (r := 2) (i := 2) oM uT94 ti55 s7 rfl oM oM) <| dw_q (v := (u32 h2)) rfl rfl (fun _ _hx => ev_load1 uT55 rfl rfl (hm137.ext _hx).h2 (get_clD _ _ 0 (by simp))) <| dw_q rfl rfl (fun _ _hx => ev_move (v := (i64 2)) rfl) <| dw_q rfl rfl (fun _ _hx => ev_ia_arr (r := 2) (i := 2) oM uT94 ti55 s10 rfl oM oM) ?_
             refine dw_q (v := (u32 v2)) rfl rfl (fun _ _hx => ev_load1 uT55 rfl rfl (hm137.ext _hx).h0 (get_clD _ _ 0 (by simp))) ?_
             refine dw_nil (fun w139 _ew139 => ?_)
             have hm139 := hm137.ext _ew139
             refine rw_q rfl (ev_u32_add rfl rfl) <| rw_q rfl (ev_ia_arr (r := 2) (i := 2) oM uT94 ti55 s7 rfl oM oM) <| rw_n (or_store_cl' (f := u32) (l' := [h0 + v0, h1 + v1, h2 + v2, h3, h4, h5, h6, h7]) rfl u32_one ti55 rfl rfl hm139.h2 (by simp) (.inl (Nat.zero_le _))) ?_
             rintro _ w140 uq140
             have hm140 := hm139.upd2 uq140
             refine rw_nil (kBlk_normal ?_)
             refine CW.abs (fun g => g 0 = vb ∧ g 2 = (ptr b2 0) ∧ g 3 = sv43 ∧ g 4 = (u64 ((BitVec.ofInt 64 (l.length : Int)) * 8#64)) ∧ g 5 = (i64 (-1)) ∧ g 6 = (ptr b6 0) ∧ g 7 = (ptr b7 0) ∧ g 8 = (i64 ((64 * m : Nat) : Int)) ∧ g 9 = (ptr b9 0) ∧ g 10 = (ptr b10 0) ∧ g 11 = (i64 (64 : Int)) ∧ g 18 = (i64 2) ∧ g 30 = (bl ((((l ++ 128#8 :: List.replicate ((119 - l.length % 64) % 64) 0#8).length : Int) % 64) != 56)) ∧ g 39 = (bl false) ∧ g 55 = (bl (decide (((64 * m : Nat) : Int) < (M.length : Int)))) ∧ g 61 = (bl (decide ((64 : Int) < 64))) ∧ g 220 = (bl true) ∧ True) ⟨s0, s2, s3, s4, s5, s6, s7, s8, s9, s10, s11, rfl, s30, s39, s55, s61, rfl, trivial⟩ ?_
             rintro fr141 ⟨s0, s2, s3, s4, s5, s6, s7, s8, s9, s10, s11, s18, s30, s39, s55, s61, s220, _⟩
             refine cw_region <| rM rfl s18 <| rw_q (v := (i64 3)) rfl (ev_i64_add (a := 2) (b := 1) rfl rfl oM oM) <| rw_q rfl (ev_assign (v := (i64 3)) rfl) ?_
             refine rN (cr_succ (cw_seq (sR ?_)))
             refine rw_q rfl (ev_move (v := (i64 3)) rfl) <| rw_q rfl (ev_i64_lss (a := 3) (b := 8) rfl rfl) ?_
             refine rN ?_
             refine cw_cond_t rfl (by decide) ?_
             refine cw_skip (kThen_normal (cw_seq (cw_block ?_)))
             refine cw_draw [(0, false), (1, false), (2, false), (3, false), (4, false), (5, false)] 6 (by kernel_rfl) <| dw_q rfl rfl (fun _ _hx => ev_move (v := (i64 3)) rfl) <| dw_q rfl rfl (fun _ _hx => ev_ia_arr (r := 3) (i := 3) oM uT94 ti55 s7 rfl oM oM) <| dw_q (v := (u32 h3)) rfl rfl (fun _ _hx => ev_load1 uT55 rfl rfl (hm140.ext _hx).h2 (get_clD _ _ 0 (by simp))) <| dw_q rfl rfl (fun _ _hx => ev_move (v := (i64 3)) rfl) <| dw_q rfl rfl (fun _ _hx => ev_ia_arr (r := 3) (i := 3) oM uT94 ti55 s10 rfl oM oM) ?_
             refine dw_q (v := (u32 v3)) rfl rfl (fun _ _hx => ev_load1 uT55 rfl rfl (hm140.ext _hx).h0 (get_clD _ _ 0 (by simp))) ?_
             refine dw_nil (fun w142 _ew142 => ?_)
             have hm142 := hm140.ext _ew142
             refine rw_q rfl (ev_u32_add rfl rfl) <| rw_q rfl (ev_ia_arr (r := 3) (i := 3) oM uT94 ti55 s7 rfl oM oM) <| rw_n (or_store_cl' (f := u32) (l' := [h0 + v0, h1 + v1, h2 + v2, h3 + v3, h4, h5, h6, h7]) rfl u32_one ti55 rfl rfl hm142.h2 (by simp) (.inl (Nat.zero_le _))) ?_
             rintro _ w143 uq143
             have hm143 := hm142.upd2 uq143
             refine rw_nil (kBlk_normal ?_)
             refine CW.abs (fun g => g 0 = vb ∧ g 2 = (ptr b2 0) ∧ g 3 = sv43 ∧ g 4 = (u64 ((BitVec.ofInt 64 (l.length : Int)) * 8#64)) ∧ g 5 = (i64 (-1)) ∧ g 6 = (ptr b6 0) ∧ g 7 = (ptr b7 0) ∧ g 8 = (i64 ((64 * m : Nat) : Int)) ∧ g 9 = (ptr b9 0) ∧ g 10 = (ptr b10 0) ∧ g 11 = (i64 (64 : Int)) ∧ g 18 = (i64 3) ∧ g 30 = (bl ((((l ++ 128#8 :: List.replicate ((119 - l.length % 64) % 64) 0#8).length : Int) % 64) != 56)) ∧ g 39 = (bl false) ∧ g 55 = (bl (decide (((64 * m : Nat) : Int) < (M.length : Int)))) ∧ g 61 = (bl (decide ((64 : Int) < 64))) ∧ g 220 = (bl true) ∧ True) ⟨s0, s2, s3, s4, s5, s6, s7, s8, s9, s10, s11, rfl, s30, s39, s55, s61, rfl, trivial⟩ ?_
             rintro fr144 ⟨s0, s2, s3, s4, s5, s6, s7, s8, s9, s10, s11, s18, s30, s39, s55, s61, s220, _⟩
             refine cw_region <| rM rfl s18 <| rw_q (v := (i64 4)) rfl (ev_i64_add (a := 3) (b := 1) rfl rfl oM oM) <| rw_q rfl (ev_assign (v := (i64 4)) rfl) ?_
             refine rN (cr_succ (cw_seq (sR ?_)))
             refine rw_q rfl (ev_move (v := (i64 4)) rfl) <| rw_q rfl (ev_i64_lss (a := 4) (b := 8) rfl rfl) ?_
             refine rN ?_
             refine cw_cond_t rfl (by decide) ?_
             refine cw_skip (kThen_normal (cw_seq (cw_block ?_)))
             refine cw_draw [(0, false), (1, false), (2, false), (3, false), (4, false), (5, false)] 6 (by kernel_rfl) <| dw_q rfl rfl (fun _ _hx => ev_move (v := (i64 4)) rfl) <| dw_q rfl rfl (fun _ _hx => ev_ia_arr (r := 4) (i := 4) oM uT94 ti55 s7 rfl oM oM) <| dw_q (v := (u32 h4)) rfl rfl (fun _ _hx => ev_load1 uT55 rfl rfl (hm143.ext _hx).h2 (get_clD _ _ 0 (by simp))) <| dw_q rfl rfl (fun _ _hx => ev_move (v := (i64 4)) rfl) <| dw_q rfl rfl (fun _ _hx => ev_ia_arr (r := 4) (i := 4) oM uT94 ti55 s10 rfl oM oM) ?_
             refine dw_q (v := (u32 v4)) rfl rfl (fun _ _hx => ev_load1 uT55 rfl rfl (hm143.ext _hx).h0 (get_clD _ _ 0 (by simp))) ?_
             refine dw_nil (fun w145 _ew145 => ?_)
             have hm145 := hm143.ext _ew145
             refine rw_q rfl (ev_u32_add rfl rfl) <| rw_q rfl (ev_ia_arr (r := 4) (i := 4) oM uT94 ti55 s7 rfl oM oM) <| rw_n (or_store_cl' (f := u32) (l' := [h0 + v0, h1 + v1, h2 + v2, h3 + v3, h4 + v4, h5, h6, h7]) rfl u32_one ti55 rfl rfl hm145.h2 (by simp) (.inl (Nat.zero_le _))) ?_
             rintro _ w146 uq146
             have hm146 := hm145.upd2 uq146
             refine rw_nil (kBlk_normal ?_)
             refine CW.abs (fun g => g 0 = vb ∧ g 2 = (ptr b2 0) ∧ g 3 = sv43 ∧ g 4 = (u64 ((BitVec.ofInt 64 (l.length : Int)) * 8#64)) ∧ g 5 = (i64 (-1)) ∧ g 6 = (ptr b6 0) ∧ g 7 = (ptr b7 0) ∧ g 8 = (i64 ((64 * m : Nat) : Int)) ∧ g 9 = (ptr b9 0) ∧ g 10 = (ptr b10 0) ∧ g 11 = (i64 (64 : Int)) ∧ g 18 = (i64 4) ∧ g 30 = (bl ((((l ++ 128#8 :: List.replicate ((119 - l.length % 64) % 64) 0#8).length : Int) % 64) != 56)) ∧ g 39 = (bl false) ∧ g 55 = (bl (decide (((64 * m : Nat) : Int) < (M.length : Int)))) ∧ g 61 = (bl (decide ((64 : Int) < 64))) ∧ g 220 = (bl true) ∧ True) ⟨s0, s2, s3, s4, s5, s6, s7, s8, s9, s10, s11, rfl, s30, s39, s55, s61, rfl, trivial⟩ ?_
             rintro fr147 ⟨s0, s2, s3, s4, s5, s6, s7, s8, s9, s10, s11, s18, s30, s39, s55, s61, s220, _⟩
             refine cw_region <| rM rfl s18 <| rw_q (v := (i64 5)) rfl (ev_i64_add (a := 4) (b := 1) rfl rfl oM oM) <| rw_q rfl (ev_assign (v := (i64 5)) rfl) ?_
             refine rN (cr_succ (cw_seq (sR ?_)))
             refine rw_q rfl (ev_move (v := (i64 5)) rfl) <| rw_q rfl (ev_i64_lss (a := 5) (b := 8) rfl rfl) ?_
             refine rN ?_
             refine cw_cond_t rfl (by decide) ?_
             refine cw_skip (kThen_normal (cw_seq (cw_block ?_)))
             refine cw_draw [(0, false), (1, false), (2, false), (3, false), (4, false), (5, false)] 6 (by kernel_rfl) <| dw_q rfl rfl (fun _ _hx => ev_move (v := (i64 5)) rfl) <| dw_q rfl rfl (fun _ _hx => ev_ia_arr (r := 5) (i := 5) oM uT94 ti55 s7 rfl oM oM) <| dw_q (v := (u32 h5)) rfl rfl (fun _ _hx => ev_load1 uT55 rfl rfl (hm146.ext _hx).h2 (get_clD _ _ 0 (by simp))) <| dw_q rfl rfl (fun _ _hx => ev_move (v := (i64 5)) rfl) <| dw_q rfl rfl (fun _ _hx => ev_ia_arr (r := 5) (i := 5) oM uT94 ti55 s10 rfl oM oM) ?_
             refine dw_q (v := (u32 v5)) rfl rfl (fun _ _hx => ev_load1 uT55 rfl rfl (hm146.ext _hx).h0 (get_clD _ _ 0 (by simp))) ?_
             refine dw_nil (fun w148 _ew148 => ?_)
             have hm148 := hm146.ext _ew148
             refine rw_q rfl (ev_u32_add rfl rfl) <| rw_q rfl (ev_ia_arr (r := 5) (i := 5) oM uT94 ti55 s7 rfl oM oM) <| rw_n (or_store_cl' (f := u32) (l' := [h0 + v0, h1 + v1, h2 + v2, h3 + v3, h4 + v4, h5 + v5, h6, h7]) rfl u32_one ti55 rfl rfl hm148.h2 (by simp) (.inl (Nat.zero_le _))) ?_
             rintro _ w149 uq149
             have hm149 := hm148.upd2 uq149
             refine rw_nil (kBlk_normal ?_)
             refine CW.abs (fun g => g 0 = vb ∧ g 2 = (ptr b2 0) ∧ g 3 = sv43 ∧ g 4 = (u64 ((BitVec.ofInt 64 (l.length : Int)) * 8#64)) ∧ g 5 = (i64 (-1)) ∧ g 6 = (ptr b6 0) ∧ g 7 = (ptr b7 0) ∧ g 8 = (i64 ((64 * m : Nat) : Int)) ∧ g 9 = (ptr b9 0) ∧ g 10 = (ptr b10 0) ∧ g 11 = (i64 (64 : Int)) ∧ g 18 = (i64 5) ∧ g 30 = (bl ((((l ++ 128#8 :: List.replicate ((119 - l.length % 64) % 64) 0#8).length : Int) % 64) != 56)) ∧ g 39 = (bl false) ∧ g 55 = (bl (decide (((64 * m : Nat) : Int) < (M.length : Int)))) ∧ g 61 = (bl (decide ((64 : Int) < 64))) ∧ g 220 = (bl true) ∧ True) ⟨s0, s2, s3, s4, s5, s6, s7, s8, s9, s10, s11, rfl, s30, s39, s55, s61, rfl, trivial⟩ ?_
             rintro fr150 ⟨s0, s2, s3, s4, s5, s6, s7, s8, s9, s10, s11, s18, s30, s39, s55, s61, s220, _⟩
             refine cw_region <| rM rfl s18 <| rw_q (v := (i64 6)) rfl (ev_i64_add (a := 5) (b := 1) rfl rfl oM oM) <| rw_q rfl (ev_assign (v := (i64 6)) rfl) ?_
             refine rN (cr_succ (cw_seq (sR ?_)))
             refine rw_q rfl (ev_move (v := (i64 6)) rfl) <| rw_q rfl (ev_i64_lss (a := 6) (b := 8) rfl rfl) ?_
             refine rN ?_
             refine cw_cond_t rfl (by decide) ?_
             refine cw_skip (kThen_normal (cw_seq (cw_block ?_)))
             refine cw_draw [(0, false), (1, false), (2, false), (3, false), (4, false), (5, false)] 6 (by kernel_rfl) <| dw_q rfl rfl (fun _ _hx => ev_move (v := (i64 6)) rfl) <| dw_q rfl rfl (fun _ _hx => ev_ia_arr (r := 6) (i := 6) oM uT94 ti55 s7 rfl oM oM) <| dw_q (v := (u32 h6)) rfl rfl (fun _ _hx => ev_load1 uT55 rfl rfl (hm149.ext _hx).h2 (get_clD _ _ 0 (by simp))) <| dw_q rfl rfl (fun _ _hx => ev_move (v := (i64 6)) rfl) <| dw_q rfl rfl (fun _ _hx => ev_ia_arr (r := 6) (i := 6) oM uT94 ti55 s10 rfl oM oM) ?_
             refine dw_q (v := (u32 v6)) rfl rfl (fun _ _hx => ev_load1 uT55 rfl rfl (hm149.ext _hx).h0 (get_clD _ _ 0 (by simp))) ?_
             refine dw_nil (fun w151 _ew151 => ?_)
             have hm151 := hm149.ext _ew151
             refine rw_q rfl (ev_u32_add rfl rfl) <| rw_q rfl (ev_ia_arr (r := 6) (i := 6) oM uT94 ti55 s7 rfl oM oM) <| rw_n (or_store_cl' (f := u32) (l' := [h0 + v0, h1 + v1, h2 + v2, h3 + v3, h4 + v4, h5 + v5, h6 + v6, h7]) rfl u32_one ti55 rfl rfl hm151.h2 (by simp) (.inl (Nat.zero_le _))) ?_
             rintro _ w152 uq152
             have hm152 := hm151.upd2 uq152
             refine rw_nil (kBlk_normal ?_)
             refine CW.abs (fun g => g 0 = vb ∧ g 2 = (ptr b2 0) ∧ g 3 = sv43 ∧ g 4 = (u64 ((BitVec.ofInt 64 (l.length : Int)) * 8#64)) ∧ g 5 = (i64 (-1)) ∧ g 6 = (ptr b6 0) ∧ g 7 = (ptr b7 0) ∧ g 8 = (i64 ((64 * m : Nat) : Int)) ∧ g 9 = (ptr b9 0) ∧ g 10 = (ptr b10 0) ∧ g 11 = (i64 (64 : Int)) ∧ g 18 = (i64 6) ∧ g 30 = (bl ((((l ++ 128#8 :: List.replicate ((119 - l.length % 64) % 64) 0#8).length : Int) % 64) != 56)) ∧ g 39 = (bl false) ∧ g 55 = (bl (decide (((64 * m : Nat) : Int) < (M.length : Int)))) ∧ g 61 = (bl (decide ((64 : Int) < 64))) ∧ g 220 = (bl true) ∧ True) ⟨s0, s2, s3, s4, s5, s6, s7, s8, s9, s10, s11, rfl, s30, s39, s55, s61, rfl, trivial⟩ ?_
             rintro fr153 ⟨s0, s2, s3, s4, s5, s6, s7, s8, s9, s10, s11, s18, s30, s39, s55, s61, s220, _⟩
             refine cw_region <| rM rfl s18 <| rw_q (v := (i64 7)) rfl (ev_i64_add (a := 6) (b := 1) rfl rfl oM oM) <| rw_q rfl (ev_assign (v := (i64 7)) rfl) ?_
             refine rN (cr_succ (cw_seq (sR ?_)))
             refine rw_q rfl (ev_move (v := (i64 7)) rfl) <| rw_q rfl (ev_i64_lss (a := 7) (b := 8) rfl rfl) ?_
             refine rN ?_
             refine cw_cond_t rfl (by decide) ?_
             refine cw_skip (kThen_normal (cw_seq (cw_block ?_)))
             refine cw_draw [(0, false), (1, false), (2, false), (3, false), (4, false), (5, false)] 6 (by kernel_rfl) <| dw_q rfl rfl (fun _ _hx => ev_move (v := (i64 7)) rfl) <| dw_q rfl rfl (fun _ _hx => ev_ia_arr (r := 7) (i := 7) oM uT94 ti55 s7 rfl oM oM) <| dw_q (v := (u32 h7)) rfl rfl (fun _ _hx => ev_load1 uT55 rfl rfl (hm152.ext _hx).h2 (get_clD _ _ 0 (by simp))) <| dw_q rfl rfl (fun _ _hx => ev_move (v := (i64 7)) rfl) <| dw_q rfl rfl (fun _ _hx => ev_ia_arr (r := 7) (i := 7) oM uT94 ti55 s10 rfl oM oM) ?_
             refine dw_q (v := (u32 v7)) rfl rfl (fun _ _hx => ev_load1 uT55 rfl rfl (hm152.ext _hx).h0 (get_clD _ _ 0 (by simp))) ?_
             refine dw_nil (fun w154 _ew154 => ?_)
             have hm154 := hm152.ext _ew154
             refine rw_q rfl (ev_u32_add rfl rfl) <| rw_q rfl (ev_ia_arr (r := 7) (i := 7) oM uT94 ti55 s7 rfl oM oM) <| rw_n (or_store_cl' (f := u32) (l' := [h0 + v0, h1 + v1, h2 + v2, h3 + v3, h4 + v4, h5 + v5, h6 + v6, h7 + v7]) rfl u32_one ti55 rfl rfl hm154.h2 (by simp) (.inl (Nat.zero_le _))) ?_
             rintro _ w155 uq155
             have hm155 := hm154.upd2 uq155
             refine rw_nil (kBlk_normal ?_)
             refine CW.abs (fun g => g 0 = vb ∧ g 2 = (ptr b2 0) ∧ g 3 = sv43 ∧ g 4 = (u64 ((BitVec.ofInt 64 (l.length : Int)) * 8#64)) ∧ g 5 = (i64 (-1)) ∧ g 6 = (ptr b6 0) ∧ g 7 = (ptr b7 0) ∧ g 8 = (i64 ((64 * m : Nat) : Int)) ∧ g 9 = (ptr b9 0) ∧ g 10 = (ptr b10 0) ∧ g 11 = (i64 (64 : Int)) ∧ g 18 = (i64 7) ∧ g 30 = (bl ((((l ++ 128#8 :: List.replicate ((119 - l.length % 64) % 64) 0#8).length : Int) % 64) != 56)) ∧ g 39 = (bl false) ∧ g 55 = (bl (decide (((64 * m : Nat) : Int) < (M.length : Int)))) ∧ g 61 = (bl (decide ((64 : Int) < 64))) ∧ g 220 = (bl true) ∧ True) ⟨s0, s2, s3, s4, s5, s6, s7, s8, s9, s10, s11, rfl, s30, s39, s55, s61, rfl, trivial⟩ ?_
             rintro fr156 ⟨s0, s2, s3, s4, s5, s6, s7, s8, s9, s10, s11, s18, s30, s39, s55, s61, s220, _⟩
             refine cw_region <| rM rfl s18 <| rw_q (v := (i64 8)) rfl (ev_i64_add (a := 7) (b := 1) rfl rfl oM oM) <| rw_q rfl (ev_assign (v := (i64 8)) rfl) ?_
             refine rN (cr_succ (cw_seq (sR ?_)))
             refine rw_q rfl (ev_move (v := (i64 8)) rfl) <| rw_q rfl (ev_i64_lss (a := 8) (b := 8) rfl rfl) ?_
             refine rN ?_
             refine cw_cond_f rfl (by decide) <| cw_exit ?_
             refine kThen_exit (kThen_exit (kBlk_hit ?_))
             refine kBlk_normal (cw_region ?_)
             refine rM rfl s8 <| rw_q rfl (ev_i64_add (b := 64) rfl rfl oM oM) <| rw_q rfl (ev_assign (v := (i64 (((64 * m : Nat) : Int) + 64))) rfl) ?_
             refine rN ?_
             have hhn : [h0 + v0, h1 + v1, h2 + v2, h3 + v3, h4 + v4, h5 + v5, h6 + v6, h7 + v7] = hAt startL M (m + 1) := by rw [hAt_succ, ← hh, takeP, ← hv]; rfl
             have hm157 := Mem.drop ([(b10, .cells (cl u32 ([v0, v1, v2, v3, v4, v5, v6, v7])) 94 (0, 0))]) _ hm155
             have hm158 := Mem.drop ([(b9, .cells (cl u32 wl) 98 (0, 0))]) _ hm157
             exact ⟨⟨m + 1, (h0 + v0), (h1 + v1), (h2 + v2), (h3 + v3), (h4 + v4), (h5 + v5), (h6 + v6), (h7 + v7), oM, hhn, s0, s2, s3, s4, s5, s6, s7, (by show i64 _ = i64 _; congr 1), s30, s39, hm158⟩, meas (by show i64 _ = i64 _; congr 1) z8 (a' := ((64 * (m + 1) : Nat) : Int)) oM oM⟩
       · -- false
         have hc55p := of_decide_eq_false hc55
         obtain rfl : m = M.length / 64 := by omega
         refine cw_exit ?_
         refine kThen_exit (kThen_exit (kBlk_hit ?_))
         refine sR ?_
         refine rw_q rfl (ev_build_arr (ps := []) (c := (cl u8 (List.replicate 32 0))) ti23 uT23 ti5 (by simp) rfl) <| rw_c rfl (or_alloc_agg hm54 ti23) ?_
         rintro _ w159 ⟨b19, rfl, _ew159, hm159⟩
         refine rw_n (or_store_agg (f := u8) (l := List.replicate 32 0) u8_one ti23 rfl rfl sD hm159.h0 sZ rfl) ?_
         rintro _ w160 uq160
         have hm160 := hm159.upd0 uq160
         refine rN (cw_seq (sR ?_))
         refine rw_q rfl (ev_assign (v := (i64 0)) rfl) ?_
         refine rN (cw_block ?_)
         refine cw_rounds 33 ?_
         refine cr_succ (cw_seq (sR ?_))
         refine rw_q rfl (ev_move (v := (i64 0)) rfl) <| rw_q rfl (ev_i64_lss (a := 0) (b := 32) rfl rfl) ?_
         refine rN ?_
         refine cw_cond_t rfl (by decide) ?_
         refine cw_skip (kThen_normal (cw_seq (cw_block (cw_region ?_))))
         refine rw_q rfl (ev_move (v := (i64 0)) rfl) <| rw_q rfl (ev_move (v := (i64 0)) rfl) <| rw_q (v := (i64 0)) rfl (ev_i64_quo (a := 0) (b := 4) rfl rfl oM oM oM) <| rw_q rfl (ev_ia_arr (r := 0) (i := 0) oM uT94 ti55 s7 rfl oM oM) <| rw_q (v := (u32 h0)) rfl (ev_load1 uT55 rfl rfl hm160.h1 (get_clD _ _ 0 (by simp))) <| rw_q rfl (ev_move (v := (i64 0)) rfl) ?_
         refine rw_q (v := (i64 0)) rfl (ev_i64_rem (a := 0) (b := 4) rfl rfl oM oM oM) <| rw_q (v := (i64 0)) rfl (ev_i64_mul (a := 8) (b := 0) rfl rfl oM oM) <| rw_q (v := (i64 24)) rfl (ev_i64_sub (a := 24) (b := 0) rfl rfl oM oM) <| rw_q rfl (ev_u32_shr (b := 24) rfl rfl oM) <| rw_q rfl (ev_conv_u32_u8 ⟨_, uT55⟩ uT5 rfl) <| rw_q rfl (ev_ia_arr (r := 0) (i := 0) oM uT23 ti5 rfl rfl oM oM) ?_
         refine rw_n (or_store_cl' (f := u8) (l' := [(h0 >>> 24).setWidth 8, 0, 0, 0, 0, 0, 0, 0, 0, 0, 0, 0, 0, 0, 0, 0, 0, 0, 0, 0, 0, 0, 0, 0, 0, 0, 0, 0, 0, 0, 0, 0]) rfl u8_one ti5 rfl rfl hm160.h0 (by simp) (.inl (Nat.zero_le _))) ?_
         rintro _ w161 uq161
         have hm161 := hm160.upd0 uq161
         refine rw_nil (kBlk_normal ?_)
         refine CW.abs (fun g => g 0 = vb ∧ g 2 = (ptr b2 0) ∧ g 3 = sv43 ∧ g 4 = (u64 ((BitVec.ofInt 64 (l.length : Int)) * 8#64)) ∧ g 5 = (i64 (-1)) ∧ g 6 = (ptr b6 0) ∧ g 7 = (ptr b7 0) ∧ g 8 = (i64 ((64 * (M.length / 64) : Nat) : Int)) ∧ g 19 = (ptr b19 0) ∧ g 20 = (i64 0) ∧ g 30 = (bl ((((l ++ 128#8 :: List.replicate ((119 - l.length % 64) % 64) 0#8).length : Int) % 64) != 56)) ∧ g 39 = (bl false) ∧ g 55 = (bl (decide (((64 * (M.length / 64) : Nat) : Int) < (M.length : Int)))) ∧ g 233 = (bl true) ∧ True) ⟨s0, s2, s3, s4, s5, s6, s7, s8, rfl, rfl, s30, s39, rfl, rfl, trivial⟩ ?_
         rintro fr162 ⟨s0, s2, s3, s4, s5, s6, s7, s8, s19, s20, s30, s39, s55, s233, _⟩
         refine cw_region <| rM rfl s20 <| rw_q (v := (i64 1)) rfl (ev_i64_add (a := 0) (b := 1) rfl rfl oM oM) <| rw_q rfl (ev_assign (v := (i64 1)) rfl) ?_
         refine rN (cr_succ (cw_seq (sR ?_)))
         refine rw_q rfl (ev_move (v := (i64 1)) rfl) <| rw_q rfl (ev_i64_lss (a := 1) (b := 32) rfl rfl) ?_
         refine rN ?_
         refine cw_cond_t rfl (by decide) ?_
         refine cw_skip (kThen_normal (cw_seq (cw_block (cw_region ?_))))
         refine rw_q rfl (ev_move (v := (i64 1)) rfl) <| rw_q rfl (ev_move (v := (i64 1)) rfl) <| rw_q (v := (i64 0)) rfl (ev_i64_quo (a := 1) (b := 4) rfl rfl oM oM oM) <| rw_q rfl (ev_ia_arr (r := 0) (i := 0) oM uT94 ti55 s7 rfl oM oM) <| rw_q (v := (u32 h0)) rfl (ev_load1 uT55 rfl rfl hm161.h1 (get_clD _ _ 0 (by simp))) <| rw_q rfl (ev_move (v := (i64 1)) rfl) ?_
         refine rw_q (v := (i64 1)) rfl (ev_i64_rem (a := 1) (b := 4) rfl rfl oM oM oM) <| rw_q (v := (i64 8)) rfl (ev_i64_mul (a := 8) (b := 1) rfl rfl oM oM) <| rw_q (v := (i64 16)) rfl (ev_i64_sub (a := 24) (b := 8) rfl rfl oM oM) <| rw_q rfl (ev_u32_shr (b := 16) rfl rfl oM) <| rw_q rfl (ev_conv_u32_u8 ⟨_, uT55⟩ uT5 rfl) <| rw_q rfl (ev_ia_arr (r := 1) (i := 1) oM uT23 ti5 s19 rfl oM oM) ?_
         refine rw_n (or_store_cl' (f := u8) (l' := [(h0 >>> 24).setWidth 8, (h0 >>> 16).setWidth 8, 0, 0, 0, 0, 0, 0, 0, 0, 0, 0, 0, 0, 0, 0, 0, 0, 0, 0, 0, 0, 0, 0, 0, 0, 0, 0, 0, 0, 0, 0]) rfl u8_one ti5 rfl rfl hm161.h0 (by simp) (.inl (Nat.zero_le _))) ?_
         rintro _ w163 uq163
         have hm163 := hm161.upd0 uq163
         refine rw_nil (kBlk_normal ?_)
         refine CW.abs (fun g => g 0 = vb ∧ g 2 = (ptr b2 0) ∧ g 3 = sv43 ∧ g 4 = (u64 ((BitVec.ofInt 64 (l.length : Int)) * 8#64)) ∧ g 5 = (i64 (-1)) ∧ g 6 = (ptr b6 0) ∧ g 7 = (ptr b7 0) ∧ g 8 = (i64 ((64 * (M.length / 64) : Nat) : Int)) ∧ g 19 = (ptr b19 0) ∧ g 20 = (i64 1) ∧ g 30 = (bl ((((l ++ 128#8 :: List.replicate ((119 - l.length % 64) % 64) 0#8).length : Int) % 64) != 56)) ∧ g 39 = (bl false) ∧ g 55 = (bl (decide (((64 * (M.length / 64) : Nat) : Int) < (M.length : Int)))) ∧ g 233 = (bl true) ∧ True) ⟨s0, s2, s3, s4, s5, s6, s7, s8, s19, rfl, s30, s39, s55, rfl, trivial⟩ ?_
         rintro fr164 ⟨s0, s2, s3, s4, s5, s6, s7, s8, s19, s20, s30, s39, s55, s233, _⟩
         refine cw_region <| rM rfl s20 <| rw_q (v := (i64 2)) rfl (ev_i64_add (a := 1) (b := 1) rfl rfl oM oM) <| rw_q rfl (ev_assign (v := (i64 2)) rfl) ?_
         refine rN (cr_succ (cw_seq (sR ?_)))
         refine rw_q rfl (ev_move (v := (i64 2)) rfl) <| rw_q rfl (ev_i64_lss (a := 2) (b := 32) rfl rfl) ?_
         refine rN ?_
         refine cw_cond_t rfl (by decide) ?_
         refine cw_skip (kThen_normal (cw_seq (cw_block (cw_region ?_))))
         refine rw_q rfl (ev_move (v := (i64 2)) rfl) <| rw_q rfl (ev_move (v := (i64 2)) rfl) <| rw_q (v := (i64 0)) rfl (ev_i64_quo (a := 2) (b := 4) rfl rfl oM oM oM) <| rw_q rfl (ev_ia_arr (r := 0) (i := 0) oM uT94 ti55 s7 rfl oM oM) <| rw_q (v := (u32 h0)) rfl (ev_load1 uT55 rfl rfl hm163.h1 (get_clD _ _ 0 (by simp))) <| rw_q rfl (ev_move (v := (i64 2)) rfl) ?_
         refine rw_q (v := (i64 2)) rfl (ev_i64_rem (a := 2) (b := 4) rfl rfl oM oM oM) <| rw_q (v := (i64 16)) rfl (ev_i64_mul (a := 8) (b := 2) rfl rfl oM oM) <| rw_q (v := (i64 8)) rfl (ev_i64_sub (a := 24) (b := 16) rfl rfl oM oM) <| rw_q rfl (ev_u32_shr (b := 8) rfl rfl oM) <| rw_q rfl (ev_conv_u32_u8 ⟨_, uT55⟩ uT5 rfl) <| rw_q rfl (ev_ia_arr (r := 2) (i := 2) oM uT23 ti5 s19 rfl oM oM) ?_
         refine rw_n (or_store_cl' (f := u8) (l' := [(h0 >>> 24).setWidth 8, (h0 >>> 16).setWidth 8, (h0 >>> 8).setWidth 8, 0, 0, 0, 0, 0, 0, 0, 0, 0, 0, 0, 0, 0, 0, 0, 0, 0, 0, 0, 0, 0, 0, 0, 0, 0, 0, 0, 0, 0]) rfl u8_one ti5 rfl rfl hm163.h0 (by simp) (.inl (Nat.zero_le _))) ?_
         rintro _ w165 uq165
         have hm165 := hm163.upd0 uq165
         refine rw_nil (kBlk_normal ?_)
         refine CW.abs (fun g => g 0 = vb ∧ g 2 = (ptr b2 0) ∧ g 3 = sv43 ∧ g 4 = (u64 ((BitVec.ofInt 64 (l.length : Int)) * 8#64)) ∧ g 5 = (i64 (-1)) ∧ g 6 = (ptr b6 0) ∧ g 7 = (ptr b7 0) ∧ g 8 = (i64 ((64 * (M.length / 64) : Nat) : Int)) ∧ g 19 = (ptr b19 0) ∧ g 20 = (i64 2) ∧ g 30 = (bl ((((l ++ 128#8 :: List.replicate ((119 - l.length % 64) % 64) 0#8).length : Int) % 64) != 56)) ∧ g 39 = (bl false) ∧ g 55 = (bl (decide (((64 * (M.length / 64) : Nat) : Int) < (M.length : Int)))) ∧ g 233 = (bl true) ∧ True) ⟨s0, s2, s3, s4, s5, s6, s7, s8, s19, rfl, s30, s39, s55, rfl, trivial⟩ ?_
         rintro fr166 ⟨s0, s2, s3, s4, s5, s6, s7, s8, s19, s20, s30, s39, s55, s233, _⟩
         refine cw_region <| rM rfl s20 <| rw_q (v := (i64 3)) rfl (ev_i64_add (a := 2) (b := 1) rfl rfl oM oM) <| rw_q rfl (ev_assign (v := (i64 3)) rfl) ?_
         refine rN (cr_succ (cw_seq (sR ?_)))
         refine rw_q rfl (ev_move (v := (i64 3)) rfl) <| rw_q rfl (ev_i64_lss (a := 3) (b := 32) rfl rfl) ?_
         refine rN ?_
         refine cw_cond_t rfl (by decide) ?_
         refine cw_skip (kThen_normal (cw_seq (cw_block (cw_region ?_))))
         refine rw_q rfl (ev_move (v := (i64 3)) rfl) <| rw_q rfl (ev_move (v := (i64 3)) rfl) <| rw_q (v := (i64 0)) rfl (ev_i64_quo (a := 3) (b := 4) rfl rfl oM oM oM) <| rw_q rfl (ev_ia_arr (r := 0) (i := 0) oM uT94 ti55 s7 rfl oM oM) <| rw_q (v := (u32 h0)) rfl (ev_load1 uT55 rfl rfl hm165.h1 (get_clD _ _ 0 (by simp))) <| rw_q rfl (ev_move (v := (i64 3)) rfl) ?_
         refine rw_q (v := (i64 3)) rfl (ev_i64_rem (a := 3) (b := 4) rfl rfl oM oM oM) <| rw_q (v := (i64 24)) rfl (ev_i64_mul (a := 8) (b := 3) rfl rfl oM oM) <| rw_q (v := (i64 0)) rfl (ev_i64_sub (a := 24) (b := 24) rfl rfl oM oM) <| rw_q rfl (ev_u32_shr (b := 0) rfl rfl oM) <| rw_q rfl (ev_conv_u32_u8 ⟨_, uT55⟩ uT5 rfl) <| rw_q rfl (ev_ia_arr (r := 3) (i := 3) oM uT23 ti5 s19 rfl oM oM) ?_
         refine rw_n (or_store_cl' (f := u8) (l' := [(h0 >>> 24).setWidth 8, (h0 >>> 16).setWidth 8, (h0 >>> 8).setWidth 8, (h0 >>> 0).setWidth 8, 0, 0, 0, 0, 0, 0, 0, 0, 0, 0, 0, 0, 0, 0, 0, 0, 0, 0, 0, 0, 0, 0, 0, 0, 0, 0, 0, 0]) rfl u8_one ti5 rfl rfl hm165.h0 (by simp) (.inl (Nat.zero_le _))) ?_
         rintro _ w167 uq167
         have hm167 := hm165.upd0 uq167
         refine rw_nil (kBlk_normal ?_)
         refine CW.abs (fun g => g 0 = vb ∧ g 2 = (ptr b2 0) ∧ g 3 = sv43 ∧ g 4 = (u64 ((BitVec.ofInt 64 (l.length : Int)) * 8#64)) ∧ g 5 = (i64 (-1)) ∧ g 6 = (ptr b6 0) ∧ g 7 = (ptr b7 0) ∧ g 8 = (i64 ((64 * (M.length / 64) : Nat) : Int)) ∧ g 19 = (ptr b19 0) ∧ g 20 = (i64 3) ∧ g 30 = (bl ((((l ++ 128#8 :: List.replicate ((119 - l.length % 64) % 64) 0#8).length : Int) % 64) != 56)) ∧ g 39 = (bl false) ∧ g 55 = (bl (decide (((64 * (M.length / 64) : Nat) : Int) < (M.length : Int)))) ∧ g 233 = (bl true) ∧ True) ⟨s0, s2, s3, s4, s5, s6, s7, s8, s19, rfl, s30, s39, s55, rfl, trivial⟩ ?_
         rintro fr168 ⟨s0, s2, s3, s4, s5, s6, s7, s8, s19, s20, s30, s39, s55, s233, _⟩
         refine cw_region <| rM rfl s20 <| rw_q (v := (i64 4)) rfl (ev_i64_add (a := 3) (b := 1) rfl rfl oM oM) <| rw_q rfl (ev_assign (v := (i64 4)) rfl) ?_
         refine rN (cr_succ (cw_seq (sR ?_)))
         refine rw_q rfl (ev_move (v := (i64 4)) rfl) <| rw_q rfl (ev_i64_lss (a := 4) (b := 32) rfl rfl) ?_
         refine rN ?_
         refine cw_cond_t rfl (by decide) ?_
         refine cw_skip (kThen_normal (cw_seq (cw_block (cw_region ?_))))
         refine rw_q rfl (ev_move (v := (i64 4)) rfl) <| rw_q rfl (ev_move (v := (i64 4)) rfl) <| rw_q (v := (i64 1)) rfl (ev_i64_quo (a := 4) (b := 4) rfl rfl oM oM oM) <| rw_q rfl (ev_ia_arr (r := 1) (i := 1) oM uT94 ti55 s7 rfl oM oM) <| rw_q (v := (u32 h1)) rfl (ev_load1 uT55 rfl rfl hm167.h1 (get_clD _ _ 0 (by simp))) <| rw_q rfl (ev_move (v := (i64 4)) rfl) ?_
         refine rw_q (v := (i64 0)) rfl (ev_i64_rem (a := 4) (b := 4) rfl rfl oM oM oM) <| rw_q (v := (i64 0)) rfl (ev_i64_mul (a := 8) (b := 0) rfl rfl oM oM) <| rw_q (v := (i64 24)) rfl (ev_i64_sub (a := 24) (b := 0) rfl rfl oM oM) <| rw_q rfl (ev_u32_shr (b := 24) rfl rfl oM) <| rw_q rfl (ev_conv_u32_u8 ⟨_, uT55⟩ uT5 rfl) <| rw_q rfl (ev_ia_arr (r := 4) (i := 4) oM uT23 ti5 s19 rfl oM oM) ?_
         refine rw_n (or_store_cl' (f := u8) (l' := [(h0 >>> 24).setWidth 8, (h0 >>> 16).setWidth 8, (h0 >>> 8).setWidth 8, (h0 >>> 0).setWidth 8, (h1 >>> 24).setWidth 8, 0, 0, 0, 0, 0, 0, 0, 0, 0, 0, 0, 0, 0, 0, 0, 0, 0, 0, 0, 0, 0, 0, 0, 0, 0, 0, 0]) rfl u8_one ti5 rfl rfl hm167.h0 (by simp) (.inl (Nat.zero_le _))) ?_
         rintro _ w169 uq169
         have hm169 := hm167.upd0 uq169
         refine rw_nil (kBlk_normal ?_)
         refine CW.abs (fun g => g 0 = vb ∧ g 2 = (ptr b2 0) ∧ g 3 = sv43 ∧ g 4 = (u64 ((BitVec.ofInt 64 (l.length : Int)) * 8#64)) ∧ g 5 = (i64 (-1)) ∧ g 6 = (ptr b6 0) ∧ g 7 = (ptr b7 0) ∧ g 8 = (i64 ((64 * (M.length / 64) : Nat) : Int)) ∧ g 19 = (ptr b19 0) ∧ g 20 = (i64 4) ∧ g 30 = (bl ((((l ++ 128#8 :: List.replicate ((119 - l.length % 64) % 64) 0#8).length : Int) % 64) != 56)) ∧ g 39 = (bl false) ∧ g 55 = (bl (decide (((64 * (M.length / 64) : Nat) : Int) < (M.length : Int)))) ∧ g 233 = (bl true) ∧ True) ⟨s0, s2, s3, s4, s5, s6, s7, s8, s19, rfl, s30, s39, s55, rfl, trivial⟩ ?_
         rintro fr170 ⟨s0, s2, s3, s4, s5, s6, s7, s8, s19, s20, s30, s39, s55, s233, _⟩
         refine cw_region <| rM rfl s20 <| rw_q (v := (i64 5)) rfl (ev_i64_add (a := 4) (b := 1) rfl rfl oM oM) <| rw_q rfl (ev_assign (v := (i64 5)) rfl) ?_
         refine rN (cr_succ (cw_seq (sR ?_)))
         refine rw_q rfl (ev_move (v := (i64 5)) rfl) <| rw_q rfl (ev_i64_lss (a := 5) (b := 32) rfl rfl) ?_
         refine rN ?_
         refine cw_cond_t rfl (by decide) ?_
         refine cw_skip (kThen_normal (cw_seq (cw_block (cw_region ?_))))
         refine rw_q rfl (ev_move (v := (i64 5)) rfl) <| rw_q rfl (ev_move (v := (i64 5)) rfl) <| rw_q (v := (i64 1)) rfl (ev_i64_quo (a := 5) (b := 4) rfl rfl oM oM oM) <| rw_q rfl (ev_ia_arr (r := 1) (i := 1) oM uT94 ti55 s7 rfl oM oM) <| rw_q (v := (u32 h1)) rfl (ev_load1 uT55 rfl rfl hm169.h1 (get_clD _ _ 0 (by simp))) <| rw_q rfl (ev_move (v := (i64 5)) rfl) ?_
         refine rw_q (v := (i64 1)) rfl (ev_i64_rem (a := 5) (b := 4) rfl rfl oM oM oM) <| rw_q (v := (i64 8)) rfl (ev_i64_mul (a := 8) (b := 1) rfl rfl oM oM) <| rw_q (v := (i64 16)) rfl (ev_i64_sub (a := 24) (b := 8) rfl rfl oM oM) <| rw_q rfl (ev_u32_shr (b := 16) rfl rfl oM) <| rw_q rfl (ev_conv_u32_u8 ⟨_, uT55⟩ uT5 rfl) <| rw_q rfl (ev_ia_arr (r := 5) (i := 5) oM uT23 ti5 s19 rfl oM oM) ?_
         refine rw_n (or_store_cl' (f := u8) (l' := [(h0 >>> 24).setWidth 8, (h0 >>> 16).setWidth 8, (h0 >>> 8).setWidth 8, (h0 >>> 0).setWidth 8, (h1 >>> 24).setWidth 8, (h1 >>> 16).setWidth 8, 0, 0, 0, 0, 0, 0, 0, 0, 0, 0, 0, 0, 0, 0, 0, 0, 0, 0, 0, 0, 0, 0, 0, 0, 0, 0]) rfl u8_one ti5 rfl rfl hm169.h0 (by simp) (.inl (Nat.zero_le _))) ?_
         rintro _ w171 uq171
         have hm171 := hm169.upd0 uq171
         refine rw_nil (kBlk_normal ?_)
         refine CW.abs (fun g => g 0 = vb ∧ g 2 = (ptr b2 0) ∧ g 3 = sv43 ∧ g 4 = (u64 ((BitVec.ofInt 64 (l.length : Int)) * 8#64)) ∧ g 5 = (i64 (-1)) ∧ g 6 = (ptr b6 0) ∧ g 7 = (ptr b7 0) ∧ g 8 = (i64 ((64 * (M.length / 64) : Nat) : Int)) ∧ g 19 = (ptr b19 0) ∧ g 20 = (i64 5) ∧ g 30 = (bl ((((l ++ 128#8 :: List.replicate ((119 - l.length % 64) % 64) 0#8).length : Int) % 64) != 56)) ∧ g 39 = (bl false) ∧ g 55 = (bl (decide (((64 * (M.length / 64) : Nat) : Int) < (M.length : Int)))) ∧ g 233 = (bl true) ∧ True) ⟨s0, s2, s3, s4, s5, s6, s7, s8, s19, rfl, s30, s39, s55, rfl, trivial⟩ ?_
         rintro fr172 ⟨s0, s2, s3, s4, s5, s6, s7, s8, s19, s20, s30, s39, s55, s233, _⟩
         refine cw_region <| rM rfl s20 <| rw_q (v := (i64 6)) rfl (ev_i64_add (a := 5) (b := 1) rfl rfl oM oM) <| rw_q rfl (ev_assign (v := (i64 6)) rfl) ?_
         refine rN (cr_succ (cw_seq (sR ?_)))
         refine rw_q rfl (ev_move (v := (i64 6)) rfl) <| rw_q rfl (ev_i64_lss (a := 6) (b := 32) rfl rfl) ?_
         refine rN ?_
         refine cw_cond_t rfl (by decide) ?_
         refine cw_skip (kThen_normal (cw_seq (cw_block (cw_region ?_))))
         refine rw_q rfl (ev_move (v := (i64 6)) rfl) <| rw_q rfl (ev_move (v := (i64 6)) rfl) <| rw_q (v := (i64 1)) rfl (ev_i64_quo (a := 6) (b := 4) rfl rfl oM oM oM) <| rw_q rfl (ev_ia_arr (r := 1) (i := 1) oM uT94 ti55 s7 rfl oM oM) <| rw_q (v := (u32 h1)) rfl (ev_load1 uT55 rfl rfl hm171.h1 (get_clD _ _ 0 (by simp))) <| rw_q rfl (ev_move (v := (i64 6)) rfl) ?_
         refine rw_q (v := (i64 2)) rfl (ev_i64_rem (a := 6) (b := 4) rfl rfl oM oM oM) <| rw_q (v := (i64 16)) rfl (ev_i64_mul (a := 8) (b := 2) rfl rfl oM oM) <| rw_q (v := (i64 8)) rfl (ev_i64_sub (a := 24) (b := 16) rfl rfl oM oM) <| rw_q rfl (ev_u32_shr (b := 8) rfl rfl oM) <| rw_q rfl (ev_conv_u32_u8 ⟨_, uT55⟩ uT5 rfl) <| rw_q rfl (ev_ia_arr (r := 6) (i := 6) oM uT23 ti5 s19 rfl oM oM) ?_
         refine rw_n (or_store_cl' (f := u8) (l' := [(h0 >>> 24).setWidth 8, (h0 >>> 16).setWidth 8, (h0 >>> 8).setWidth 8, (h0 >>> 0).setWidth 8, (h1 >>> 24).setWidth 8, (h1 >>> 16).setWidth 8, (h1 >>> 8).setWidth 8, 0, 0, 0, 0, 0, 0, 0, 0, 0, 0, 0, 0, 0, 0, 0, 0, 0, 0, 0, 0, 0, 0, 0, 0, 0]) rfl u8_one ti5 rfl rfl hm171.h0 (by simp) (.inl (Nat.zero_le _))) ?_
         rintro _ w173 uq173
         have hm173 := hm171.upd0 uq173
         refine rw_nil (kBlk_normal ?_)
         refine CW.abs (fun g => g 0 = vb ∧ g 2 = (ptr b2 0) ∧ g 3 = sv43 ∧ g 4 = (u64 ((BitVec.ofInt 64 (l.length : Int)) * 8#64)) ∧ g 5 = (i64 (-1)) ∧ g 6 = (ptr b6 0) ∧ g 7 = (ptr b7 0) ∧ g 8 = (i64 ((64 * (M.length / 64) : Nat) : Int)) ∧ g 19 = (ptr b19 0) ∧ g 20 = (i64 6) ∧ g 30 = (bl ((((l ++ 128#8 :: List.replicate ((119 - l.length % 64) % 64) 0#8).length : Int) % 64) != 56)) ∧ g 39 = (bl false) ∧ g 55 = (bl (decide (((64 * (M.length / 64) : Nat) : Int) < (M.length : Int)))) ∧ g 233 = (bl true) ∧ True) ⟨s0, s2, s3, s4, s5, s6, s7, s8, s19, rfl, s30, s39, s55, rfl, trivial⟩ ?_
         rintro fr174 ⟨s0, s2, s3, s4, s5, s6, s7, s8, s19, s20, s30, s39, s55, s233, _⟩
         refine cw_region <| rM rfl s20 <| rw_q (v := (i64 7)) rfl (ev_i64_add (a := 6) (b := 1) rfl rfl oM oM) <| rw_q rfl (ev_assign (v := (i64 7)) rfl) ?_
         refine rN (cr_succ (cw_seq (sR ?_)))
         refine rw_q rfl (ev_move (v := (i64 7)) rfl) <| rw_q rfl (ev_i64_lss (a := 7) (b := 32) rfl rfl) ?_
         refine rN ?_
         refine cw_cond_t rfl (by decide) ?_
         refine cw_skip (kThen_normal (cw_seq (cw_block (cw_region ?_))))
         refine rw_q rfl (ev_move (v := (i64 7)) rfl) <| rw_q rfl (ev_move (v := (i64 7)) rfl) <| rw_q (v := (i64 1)) rfl (ev_i64_quo (a := 7) (b := 4) rfl rfl oM oM oM) <| rw_q rfl (ev_ia_arr (r := 1) (i := 1) oM uT94 ti55 s7 rfl oM oM) <| rw_q (v := (u32 h1)) rfl (ev_load1 uT55 rfl rfl hm173.h1 (get_clD _ _ 0 (by simp))) <| rw_q rfl (ev_move (v := (i64 7)) rfl) ?_
         refine rw_q (v := (i64 3)) rfl (ev_i64_rem (a := 7) (b := 4) rfl rfl oM oM oM) <| rw_q (v := (i64 24)) rfl (ev_i64_mul (a := 8) (b := 3) rfl rfl oM oM) <| rw_q (v := (i64 0)) rfl (ev_i64_sub (a := 24) (b := 24) rfl rfl oM oM) <| rw_q rfl (ev_u32_shr (b := 0) rfl rfl oM) <| rw_q rfl (ev_conv_u32_u8 ⟨_, uT55⟩ uT5 rfl) <| rw_q rfl (ev_ia_arr (r := 7) (i := 7) oM uT23 ti5 s19 rfl oM oM) ?_
         refine rw_n (or_store_cl' (f := u8) (l' := [(h0 >>> 24).setWidth 8, (h0 >>> 16).setWidth 8, (h0 >>> 8).setWidth 8, (h0 >>> 0).setWidth 8, (h1 >>> 24).setWidth 8, (h1 >>> 16).setWidth 8, (h1 >>> 8).setWidth 8, (h1 >>> 0).setWidth 8, 0, 0, 0, 0, 0, 0, 0, 0, 0, 0, 0, 0, 0, 0, 0, 0, 0, 0, 0, 0, 0, 0, 0, 0]) rfl u8_one ti5 rfl rfl hm173.h0 (by simp) (.inl (Nat.zero_le _))) ?_
         rintro _ w175 uq175
         have hm175 := hm173.upd0 uq175
         refine rw_nil (kBlk_normal ?_)
         refine CW.abs (fun g => g 0 = vb ∧ g 2 = (ptr b2 0) ∧ g 3 = sv43 ∧ g 4 = (u64 ((BitVec.ofInt 64 (l.length : Int)) * 8#64)) ∧ g 5 = (i64 (-1)) ∧ g 6 = (ptr b6 0) ∧ g 7 = (ptr b7 0) ∧ g 8 = (i64 ((64 * (M.length / 64) : Nat) : Int)) ∧ g 19 = (ptr b19 0) ∧ g 20 = (i64 7) ∧ g 30 = (bl ((((l ++ 128#8 :: List.replicate ((119 - l.length % 64) % 64) 0#8).length : Int) % 64) != 56)) ∧ g 39 = (bl false) ∧ g 55 = (bl (decide (((64 * (M.length / 64) : Nat) : Int) < (M.length : Int)))) ∧ g 233 = (bl true) ∧ True) ⟨s0, s2, s3, s4, s5, s6, s7, s8, s19, rfl, s30, s39, s55, rfl, trivial⟩ ?_
         rintro fr176 ⟨s0, s2, s3, s4, s5, s6, s7, s8, s19, s20, s30, s39, s55, s233, _⟩
         refine cw_region <| rM rfl s20 <| rw_q (v := (i64 8)) rfl (ev_i64_add (a := 7) (b := 1) rfl rfl oM oM) <| rw_q rfl (ev_assign (v := (i64 8)) rfl) ?_
         refine rN (cr_succ (cw_seq (sR ?_)))
         refine rw_q rfl (ev_move (v := (i64 8)) rfl) <| rw_q rfl (ev_i64_lss (a := 8) (b := 32) rfl rfl) ?_
         refine rN ?_
         refine cw_cond_t rfl (by decide) ?_
         refine cw_skip (kThen_normal (cw_seq (cw_block (cw_region ?_))))
         refine rw_q rfl (ev_move (v := (i64 8)) rfl) <| rw_q rfl (ev_move (v := (i64 8)) rfl) <| rw_q (v := (i64 2)) rfl (ev_i64_quo (a := 8) (b := 4) rfl rfl oM oM oM) <| rw_q rfl (ev_ia_arr (r := 2) (i := 2) oM uT94 ti55 s7 rfl oM oM) <| rw_q (v := (u32 h2)) rfl (ev_load1 uT55 rfl rfl hm175.h1 (get_clD _ _ 0 (by simp))) <| rw_q rfl (ev_move (v := (i64 8)) rfl) ?_
         refine rw_q (v := (i64 0)) rfl (ev_i64_rem (a := 8) (b := 4) rfl rfl oM oM oM) <| rw_q (v := (i64 0)) rfl (ev_i64_mul (a := 8) (b := 0) rfl rfl oM oM) <| rw_q (v := (i64 24)) rfl (ev_i64_sub (a := 24) (b := 0) rfl rfl oM oM) <| rw_q rfl (ev_u32_shr (b := 24) rfl rfl oM) <| rw_q rfl (ev_conv_u32_u8 ⟨_, uT55⟩ uT5 rfl) <| rw_q rfl (ev_ia_arr (r := 8) (i := 8) oM uT23 ti5 s19 rfl oM oM) ?_
         refine rw_n (or_store_cl' (f := u8) (l' := [(h0 >>> 24).setWidth 8, (h0 >>> 16).setWidth 8, (h0 >>> 8).setWidth 8, (h0 >>> 0).setWidth 8, (h1 >>> 24).setWidth 8, (h1 >>> 16).setWidth 8, (h1 >>> 8).setWidth 8, (h1 >>> 0).setWidth 8, (h2 >>> 24).setWidth 8, 0, 0, 0, 0, 0, 0, 0, 0, 0, 0, 0, 0, 0, 0, 0, 0, 0, 0, 0, 0, 0, 0, 0]) rfl u8_one ti5 rfl rfl hm175.h0 (by simp) (.inl (Nat.zero_le _))) ?_
         rintro _ w177 uq177
         have hm177 := hm175.upd0 uq177
         refine rw_nil (kBlk_normal ?_)
         refine CW.abs (fun g => g 0 = vb ∧ g 2 = (ptr b2 0) ∧ g 3 = sv43 ∧ g 4 = (u64 ((BitVec.ofInt 64 (l.length : Int)) * 8#64)) ∧ g 5 = (i64 (-1)) ∧ g 6 = (ptr b6 0) ∧ g 7 = (ptr b7 0) ∧ g 8 = (i64 ((64 * (M.length / 64) : Nat) : Int)) ∧ g 19 = (ptr b19 0) ∧ g 20 = (i64 8) ∧ g 30 = (bl ((((l ++ 128#8 :: List.replicate ((119 - l.length % 64) % 64) 0#8).length : Int) % 64) != 56)) ∧ g 39 = (bl false) ∧ g 55 = (bl (decide (((64 * (M.length / 64) : Nat) : Int) < (M.length : Int)))) ∧ g 233 = (bl true) ∧ True) ⟨s0, s2, s3, s4, s5, s6, s7, s8, s19, rfl, s30, s39, s55, rfl, trivial⟩ ?_
         rintro fr178 ⟨s0, s2, s3, s4, s5, s6, s7, s8, s19, s20, s30, s39, s55, s233, _⟩
         refine cw_region <| rM rfl s20 <| rw_q (v := (i64 9)) rfl (ev_i64_add (a := 8) (b := 1) rfl rfl oM oM) <| rw_q rfl (ev_assign (v := (i64 9)) rfl) ?_
         refine rN (cr_succ (cw_seq (sR ?_)))
         refine rw_q rfl (ev_move (v := (i64 9)) rfl) <| rw_q rfl (ev_i64_lss (a := 9) (b := 32) rfl rfl) ?_
         refine rN ?_
         refine cw_cond_t rfl (by decide) ?_
         refine cw_skip (kThen_normal (cw_seq (cw_block (cw_region ?_))))
         refine rw_q rfl (ev_move (v := (i64 9)) rfl) <| rw_q rfl (ev_move (v := (i64 9)) rfl) <| rw_q (v := (i64 2)) rfl (ev_i64_quo (a := 9) (b := 4) rfl rfl oM oM oM) <| rw_q rfl (ev_ia_arr (r := 2) (i := 2) oM uT94 ti55 s7 rfl oM oM) <| rw_q (v := (u32 h2)) rfl (ev_load1 uT55 rfl rfl hm177.h1 (get_clD _ _ 0 (by simp))) <| rw_q rfl (ev_move (v := (i64 9)) rfl) ?_
         refine rw_q (v := (i64 1)) rfl (ev_i64_rem (a := 9) (b := 4) rfl rfl oM oM oM) <| rw_q (v := (i64 8)) rfl (ev_i64_mul (a := 8) (b := 1) rfl rfl oM oM) <| rw_q (v := (i64 16)) rfl (ev_i64_sub (a := 24) (b := 8) rfl rfl oM oM) <| rw_q rfl (ev_u32_shr (b := 16) rfl rfl oM) <| rw_q rfl (ev_conv_u32_u8 ⟨_, uT55⟩ uT5 rfl) <| rw_q rfl (ev_ia_arr (r := 9) (i := 9) oM uT23 ti5 s19 rfl oM oM) ?_
         refine rw_n (or_store_cl' (f := u8) (l' := [(h0 >>> 24).setWidth 8, (h0 >>> 16).setWidth 8, (h0 >>> 8).setWidth 8, (h0 >>> 0).setWidth 8, (h1 >>> 24).setWidth 8, (h1 >>> 16).setWidth 8, (h1 >>> 8).setWidth 8, (h1 >>> 0).setWidth 8, (h2 >>> 24).setWidth 8, (h2 >>> 16).setWidth 8, 0, 0, 0, 0, 0, 0, 0, 0, 0, 0, 0, 0, 0, 0, 0, 0, 0, 0, 0, 0, 0, 0]) rfl u8_one ti5 rfl rfl hm177.h0 (by simp) (.inl (Nat.zero_le _))) ?_
         rintro _ w179 uq179
         have hm179 := hm177.upd0 uq179
         refine rw_nil (kBlk_normal ?_)
         refine CW.abs (fun g => g 0 = vb ∧ g 2 = (ptr b2 0) ∧ g 3 = sv43 ∧ g 4 = (u64 ((BitVec.ofInt 64 (l.length : Int)) * 8#64)) ∧ g 5 = (i64 (-1)) ∧ g 6 = (ptr b6 0) ∧ g 7 = (ptr b7 0) ∧ g 8 = (i64 ((64 * (M.length / 64) : Nat) : Int)) ∧ g 19 = (ptr b19 0) ∧ g 20 = (i64 9) ∧ g 30 = (bl ((((l ++ 128#8 :: List.replicate ((119 - l.length % 64) % 64) 0#8).length : Int) % 64) != 56)) ∧ g 39 = (bl false) ∧ g 55 = (bl (decide (((64 * (M.length / 64) : Nat) : Int) < (M.length : Int)))) ∧ g 233 = (bl true) ∧ True) ⟨s0, s2, s3, s4, s5, s6, s7, s8, s19, rfl, s30, s39, s55, rfl, trivial⟩ ?_
         rintro fr180 ⟨s0, s2, s3, s4, s5, s6, s7, s8, s19, s20, s30, s39, s55, s233, _⟩
         refine cw_region <| rM rfl s20 <| rw_q (v := (i64 10)) rfl (ev_i64_add (a := 9) (b := 1) rfl rfl oM oM) <| rw_q rfl (ev_assign (v := (i64 10)) rfl) ?_
         refine rN (cr_succ (cw_seq (sR ?_)))
         refine rw_q rfl (ev_move (v := (i64 10)) rfl) <| rw_q rfl (ev_i64_lss (a := 10) (b := 32) rfl rfl) ?_
         refine rN ?_
         refine cw_cond_t rfl (by decide) ?_
         refine cw_skip (kThen_normal (cw_seq (cw_block (cw_region ?_))))
         refine rw_q rfl (ev_move (v := (i64 10)) rfl) <| rw_q rfl (ev_move (v := (i64 10)) rfl) <| rw_q (v := (i64 2)) rfl (ev_i64_quo (a := 10) (b := 4) rfl rfl oM oM oM) <| rw_q rfl (ev_ia_arr (r := 2) (i := 2) oM uT94 ti55 s7 rfl oM oM) <| rw_q (v := (u32 h2)) rfl (ev_load1 uT55 rfl rfl hm179.h1 (get_clD _ _ 0 (by simp))) <| rw_q rfl (ev_move (v := (i64 10)) rfl) ?_
         refine rw_q (v := (i64 2)) rfl (ev_i64_rem (a := 10) (b := 4) rfl rfl oM oM oM) <| rw_q (v := (i64 16)) rfl (ev_i64_mul (a := 8) (b := 2) rfl rfl oM oM) <| rw_q (v := (i64 8)) rfl (ev_i64_sub (a := 24) (b := 16) rfl rfl oM oM) <| rw_q rfl (ev_u32_shr (b := 8) rfl rfl oM) <| rw_q rfl (ev_conv_u32_u8 ⟨_, uT55⟩ uT5 rfl) <| rw_q rfl (ev_ia_arr (r := 10) (i := 10) oM uT23 ti5 s19 rfl oM oM) ?_
         refine rw_n (or_store_cl' (f := u8) (l' := [(h0 >>> 24).setWidth 8, (h0 >>> 16).setWidth 8, (h0 >>> 8).setWidth 8, (h0 >>> 0).setWidth 8, (h1 >>> 24).setWidth 8, (h1 >>> 16).setWidth 8, (h1 >>> 8).setWidth 8, (h1 >>> 0).setWidth 8, (h2 >>> 24).setWidth 8, (h2 >>> 16).setWidth 8, (h2 >>> 8).setWidth 8, 0, 0, 0, 0, 0, 0, 0, 0, 0, 0, 0, 0, 0, 0, 0, 0, 0, 0, 0, 0, 0]) rfl u8_one ti5 rfl rfl hm179.h0 (by simp) (.inl (Nat.zero_le _))) ?_
         rintro _ w181 uq181
         have hm181 := hm179.upd0 uq181
         refine rw_nil (kBlk_normal ?_)
         refine CW.abs (fun g => g 0 = vb ∧ g 2 = (ptr b2 0) ∧ g 3 = sv43 ∧ g 4 = (u64 ((BitVec.ofInt 64 (l.length : Int)) * 8#64)) ∧ g 5 = (i64 (-1)) ∧ g 6 = (ptr b6 0) ∧ g 7 = (ptr b7 0) ∧ g 8 = (i64 ((64 * (M.length / 64) : Nat) : Int)) ∧ g 19 = (ptr b19 0) ∧ g 20 = (i64 10) ∧ g 30 = (bl ((((l ++ 128#8 :: List.replicate ((119 - l.length % 64) % 64) 0#8).length : Int) % 64) != 56)) ∧ g 39 = (bl false) ∧ g 55 = (bl (decide (((64 * (M.length / 64) : Nat) : Int) < (M.length : Int)))) ∧ g 233 = (bl true) ∧ True) ⟨s0, s2, s3, s4, s5, s6, s7, s8, s19, rfl, s30, s39, s55, rfl, trivial⟩ ?_
         rintro fr182 ⟨s0, s2, s3, s4, s5, s6, s7, s8, s19, s20, s30, s39, s55, s233, _⟩
         refine cw_region <| rM rfl s20 <| rw_q (v := (i64 11)) rfl (ev_i64_add (a := 10) (b := 1) rfl rfl oM oM) <| rw_q rfl (ev_assign (v := (i64 11)) rfl) ?_
         refine rN (cr_succ (cw_seq (sR ?_)))
         refine rw_q rfl (ev_move (v := (i64 11)) rfl) <| rw_q rfl (ev_i64_lss (a := 11) (b := 32) rfl rfl) ?_
         refine rN ?_
         refine cw_cond_t rfl (by decide) ?_
         refine cw_skip (kThen_normal (cw_seq (cw_block (cw_region ?_))))
         refine rw_q rfl (ev_move (v := (i64 11)) rfl) <| rw_q rfl (ev_move (v := (i64 11)) rfl) <| rw_q (v := (i64 2)) rfl (ev_i64_quo (a := 11) (b := 4) rfl rfl oM oM oM) <| rw_q rfl (ev_ia_arr (r := 2) (i := 2) oM uT94 ti55 s7 rfl oM oM) <| rw_q (v := (u32 h2)) rfl (ev_load1 uT55 rfl rfl hm181.h1 (get_clD _ _ 0 (by simp))) <| rw_q rfl (ev_move (v := (i64 11)) rfl) ?_
         refine rw_q (v := (i64 3)) rfl (ev_i64_rem (a := 11) (b := 4) rfl rfl oM oM oM) <| rw_q (v := (i64 24)) rfl (ev_i64_mul (a := 8) (b := 3) rfl rfl oM oM) <| rw_q (v := (i64 0)) rfl (ev_i64_sub (a := 24) (b := 24) rfl rfl oM oM) <| rw_q rfl (ev_u32_shr (b := 0) rfl rfl oM) <| rw_q rfl (ev_conv_u32_u8 ⟨_, uT55⟩ uT5 rfl) <| rw_q rfl (ev_ia_arr (r := 11) (i := 11) oM uT23 ti5 s19 rfl oM oM) ?_
         refine rw_n (or_store_cl' (f := u8) (l' := [(h0 >>> 24).setWidth 8, (h0 >>> 16).setWidth 8, (h0 >>> 8).setWidth 8, (h0 >>> 0).setWidth 8, (h1 >>> 24).setWidth 8, (h1 >>> 16).setWidth 8, (h1 >>> 8).setWidth 8, (h1 >>> 0).setWidth 8, (h2 >>> 24).setWidth 8, (h2 >>> 16).setWidth 8, (h2 >>> 8).setWidth 8, (h2 >>> 0).setWidth 8, 0, 0, 0, 0, 0, 0, 0, 0, 0, 0, 0, 0, 0, 0, 0, 0, 0, 0, 0, 0]) rfl u8_one ti5 rfl rfl hm181.h0 (by simp) (.inl (Nat.zero_le _))) ?_
         rintro _ w183 uq183
         have hm183 := hm181.upd0 uq183
         refine rw_nil (kBlk_normal ?_)
         refine CW.abs (fun g => g 0 = vb ∧ g 2 = (ptr b2 0) ∧ g 3 = sv43 ∧ g 4 = (u64 ((BitVec.ofInt 64 (l.length : Int)) * 8#64)) ∧ g 5 = (i64 (-1)) ∧ g 6 = (ptr b6 0) ∧ g 7 = (ptr b7 0) ∧ g 8 = (i64 ((64 * (M.length / 64) : Nat) : Int)) ∧ g 19 = (ptr b19 0) ∧ g 20 = (i64 11) ∧ g 30 = (bl ((((l ++ 128#8 :: List.replicate ((119 - l.length % 64) % 64) 0#8).length : Int) % 64) != 56)) ∧ g 39 = (bl false) ∧ g 55 = (bl (decide (((64 * (M.length / 64) : Nat) : Int) < (M.length : Int)))) ∧ g 233 = (bl true) ∧ True) ⟨s0, s2, s3, s4, s5, s6, s7, s8, s19, rfl, s30, s39, s55, rfl, trivial⟩ ?_
         rintro fr184 ⟨s0, s2, s3, s4, s5, s6, s7, s8, s19, s20, s30, s39, s55, s233, _⟩
         refine cw_region <| rM rfl s20 <| rw_q (v := (i64 12)) rfl (ev_i64_add (a := 11) (b := 1) rfl rfl oM oM) <| rw_q rfl (ev_assign (v := (i64 12)) rfl) ?_
         refine rN (cr_succ (cw_seq (sR ?_)))
         refine rw_q rfl (ev_move (v := (i64 12)) rfl) <| rw_q rfl (ev_i64_lss (a := 12) (b := 32) rfl rfl) ?_
         refine rN ?_
         refine cw_cond_t rfl (by decide) ?_
         refine cw_skip (kThen_normal (cw_seq (cw_block (cw_region ?_))))
         refine rw_q rfl (ev_move (v := (i64 12)) rfl) <| rw_q rfl (ev_move (v := (i64 12)) rfl) <| rw_q (v := (i64 3)) rfl (ev_i64_quo (a := 12) (b := 4) rfl rfl oM oM oM) <| rw_q rfl (ev_ia_arr (r := 3) (i := 3) oM uT94 ti55 s7 rfl oM oM) <| rw_q (v := (u32 h3)) rfl (ev_load1 uT55 rfl rfl hm183.h1 (get_clD _ _ 0 (by simp))) <| rw_q rfl (ev_move (v := (i64 12)) rfl) ?_
         refine rw_q (v := (i64 0)) rfl (ev_i64_rem (a := 12) (b := 4) rfl rfl oM oM oM) <| rw_q (v := (i64 0)) rfl (ev_i64_mul (a := 8) (b := 0) rfl rfl oM oM) <| rw_q (v := (i64 24)) rfl (ev_i64_sub (a := 24) (b := 0) rfl rfl oM oM) <| rw_q rfl (ev_u32_shr (b := 24) rfl rfl oM) <| rw_q rfl (ev_conv_u32_u8 ⟨_, uT55⟩ uT5 rfl) <| rw_q rfl (ev_ia_arr (r := 12) (i := 12) oM uT23 ti5 s19 rfl oM oM) ?_
         refine rw_n (or_store_cl' (f := u8) (l' := [(h0 >>> 24).setWidth 8, (h0 >>> 16).setWidth 8, (h0 >>> 8).setWidth 8, (h0 >>> 0).setWidth 8, (h1 >>> 24).setWidth 8, (h1 >>> 16).setWidth 8, (h1 >>> 8).setWidth 8, (h1 >>> 0).setWidth 8, (h2 >>> 24).setWidth 8, (h2 >>> 16).setWidth 8, (h2 >>> 8).setWidth 8, (h2 >>> 0).setWidth 8, (h3 >>> 24).setWidth 8, 0, 0, 0, 0, 0, 0, 0, 0, 0, 0, 0, 0, 0, 0, 0, 0, 0, 0, 0]) rfl u8_one ti5 rfl rfl hm183.h0 (by simp) (.inl (Nat.zero_le _))) ?_
         rintro _ w185 uq185
         have hm185 := hm183.upd0 uq185
         refine rw_nil (kBlk_normal ?_)
         refine CW.abs (fun g => g 0 = vb ∧ g 2 = (ptr b2 0) ∧ g 3 = sv43 ∧ g 4 = (u64 ((BitVec.ofInt 64 (l.length : Int)) * 8#64)) ∧ g 5 = (i64 (-1)) ∧ g 6 = (ptr b6 0) ∧ g 7 = (ptr b7 0) ∧ g 8 = (i64 ((64 * (M.length / 64) : Nat) : Int)) ∧ g 19 = (ptr b19 0) ∧ g 20 = (i64 12) ∧ g 30 = (bl ((((l ++ 128#8 :: List.replicate ((119 - l.length % 64) % 64) 0#8).length : Int) % 64) != 56)) ∧ g 39 = (bl false) ∧ g 55 = (bl (decide (((64 * (M.length / 64) : Nat) : Int) < (M.length : Int)))) ∧ g 233 = (bl true) ∧ True) ⟨s0, s2, s3, s4, s5, s6, s7, s8, s19, rfl, s30, s39, s55, rfl, trivial⟩ ?_
         rintro fr186 ⟨s0, s2, s3, s4, s5, s6, s7, s8, s19, s20, s30, s39, s55, s233, _⟩
         refine cw_region <| rM rfl s20 <| rw_q (v := (i64 13)) rfl (ev_i64_add (a := 12) (b := 1) rfl rfl oM oM) <| rw_q rfl (ev_assign (v := (i64 13)) rfl) ?_
         refine rN (cr_succ (cw_seq (sR ?_)))
         refine rw_q rfl (ev_move (v := (i64 13)) rfl) <| rw_q rfl (ev_i64_lss (a := 13) (b := 32) rfl rfl) ?_
         refine rN ?_
         refine cw_cond_t rfl (by decide) ?_
         refine cw_skip (kThen_normal (cw_seq (cw_block (cw_region ?_))))
         refine rw_q rfl (ev_move (v := (i64 13)) rfl) <| rw_q rfl (ev_move (v := (i64 13)) rfl) <| rw_q (v := (i64 3)) rfl (ev_i64_quo (a := 13) (b := 4) rfl rfl oM oM oM) <| rw_q rfl (ev_ia_arr (r := 3) (i := 3) oM uT94 ti55 s7 rfl oM oM) <| rw_q (v := (u32 h3)) rfl (ev_load1 uT55 rfl rfl hm185.h1 (get_clD _ _ 0 (by simp))) <| rw_q rfl (ev_move (v := (i64 13)) rfl) ?_
         refine rw_q (v := (i64 1)) rfl (ev_i64_rem (a := 13) (b := 4) rfl rfl oM oM oM) <| rw_q (v := (i64 8)) rfl (ev_i64_mul (a := 8) (b := 1) rfl rfl oM oM) <| rw_q (v := (i64 16)) rfl (ev_i64_sub (a := 24) (b := 8) rfl rfl oM oM) <| rw_q rfl (ev_u32_shr (b := 16) rfl rfl oM) <| rw_q rfl (ev_conv_u32_u8 ⟨_, uT55⟩ uT5 rfl) <| rw_q rfl (ev_ia_arr (r := 13) (i := 13) oM uT23 ti5 s19 rfl oM oM) ?_
         refine rw_n (or_store_cl' (f := u8) (l' := [(h0 >>> 24).setWidth 8, (h0 >>> 16).setWidth 8, (h0 >>> 8).setWidth 8, (h0 >>> 0).setWidth 8, (h1 >>> 24).setWidth 8, (h1 >>> 16).setWidth 8, (h1 >>> 8).setWidth 8, (h1 >>> 0).setWidth 8, (h2 >>> 24).setWidth 8, (h2 >>> 16).setWidth 8, (h2 >>> 8).setWidth 8, (h2 >>> 0).setWidth 8, (h3 >>> 24).setWidth 8, (h3 >>> 16).setWidth 8, 0, 0, 0, 0, 0, 0, 0, 0, 0, 0, 0, 0, 0, 0, 0, 0, 0, 0]) rfl u8_one ti5 rfl rfl hm185.h0 (by simp) (.inl (Nat.zero_le _))) ?_
         rintro _ w187 uq187
         have hm187 := hm185.upd0 uq187
         refine rw_nil (kBlk_normal ?_)
         refine CW.abs (fun g => g 0 = vb ∧ g 2 = (ptr b2 0) ∧ g 3 = sv43 ∧ g 4 = (u64 ((BitVec.ofInt 64 (l.length : Int)) * 8#64)) ∧ g 5 = (i64 (-1)) ∧ g 6 = (ptr b6 0) ∧ g 7 = (ptr b7 0) ∧ g 8 = (i64 ((64 * (M.length / 64) : Nat) : Int)) ∧ g 19 = (ptr b19 0) ∧ g 20 = (i64 13) ∧ g 30 = (bl ((((l ++ 128#8 :: List.replicate ((119 - l.length % 64) % 64) 0#8).length : Int) % 64) != 56)) ∧ g 39 = (bl false) ∧ g 55 = (bl (decide (((64 * (M.length / 64) : Nat) : Int) < (M.length : Int)))) ∧ g 233 = (bl true) ∧ True) ⟨s0, s2, s3, s4, s5, s6, s7, s8, s19, rfl, s30, s39, s55, rfl, trivial⟩ ?_
         rintro fr188 ⟨s0, s2, s3, s4, s5, s6, s7, s8, s19, s20, s30, s39, s55, s233, _⟩
         refine cw_region <| rM rfl s20 <| rw_q (v := (i64 14)) rfl (ev_i64_add (a := 13) (b := 1) rfl rfl oM oM) <| rw_q rfl (ev_assign (v := (i64 14)) rfl) ?_
         refine rN (cr_succ (cw_seq (sR ?_)))
         refine rw_q rfl (ev_move (v := (i64 14)) rfl) <| rw_q rfl (ev_i64_lss (a := 14) (b := 32) rfl rfl) ?_
         refine rN ?_
         refine cw_cond_t rfl (by decide) ?_
         refine cw_skip (kThen_normal (cw_seq (cw_block (cw_region ?_))))
         refine rw_q rfl (ev_move (v := (i64 14)) rfl) <| rw_q rfl (ev_move (v := (i64 14)) rfl) <| rw_q (v := (i64 3)) rfl (ev_i64_quo (a := 14) (b := 4) rfl rfl oM oM oM) <| rw_q rfl (ev_ia_arr (r := 3) (i := 3) oM uT94 ti55 s7 rfl oM oM) <| rw_q (v := (u32 h3)) rfl (ev_load1 uT55 rfl rfl hm187.h1 (get_clD _ _ 0 (by simp))) <| rw_q rfl (ev_move (v := (i64 14)) rfl) ?_
         refine rw_q (v := (i64 2)) rfl (ev_i64_rem (a := 14) (b := 4) rfl rfl oM oM oM) <| rw_q (v := (i64 16)) rfl (ev_i64_mul (a := 8) (b := 2) rfl rfl oM oM) <| rw_q (v := (i64 8)) rfl (ev_i64_sub (a := 24) (b := 16) rfl rfl oM oM) <| rw_q rfl (ev_u32_shr (b := 8) rfl rfl oM) <| rw_q rfl (ev_conv_u32_u8 ⟨_, uT55⟩ uT5 rfl) <| rw_q rfl (ev_ia_arr (r := 14) (i := 14) oM uT23 ti5 s19 rfl oM oM) ?_
         refine rw_n (or_store_cl' (f := u8) (l' := [(h0 >>> 24).setWidth 8, (h0 >>> 16).setWidth 8, (h0 >>> 8).setWidth 8, (h0 >>> 0).setWidth 8, (h1 >>> 24).setWidth 8, (h1 >>> 16).setWidth 8, (h1 >>> 8).setWidth 8, (h1 >>> 0).setWidth 8, (h2 >>> 24).setWidth 8, (h2 >>> 16).setWidth 8, (h2 >>> 8).setWidth 8, (h2 >>> 0).setWidth 8, (h3 >>> 24).setWidth 8, (h3 >>> 16).setWidth 8, (h3 >>> 8).setWidth 8, 0, 0, 0, 0, 0, 0, 0, 0, 0, 0, 0, 0, 0, 0, 0, 0, 0]) rfl u8_one ti5 rfl rfl hm187.h0 (by simp) (.inl (Nat.zero_le _))) ?_
         rintro _ w189 uq189
         have hm189 := hm187.upd0 uq189
         refine rw_nil (kBlk_normal ?_)
         refine CW.abs (fun g => g 0 = vb ∧ g 2 = (ptr b2 0) ∧ g 3 = sv43 ∧ g 4 = (u64 ((BitVec.ofInt 64 (l.length : Int)) * 8#64)) ∧ g 5 = (i64 (-1)) ∧ g 6 = (ptr b6 0) ∧ g 7 = (ptr b7 0) ∧ g 8 = (i64 ((64 * (M.length / 64) : Nat) : Int)) ∧ g 19 = (ptr b19 0) ∧ g 20 = (i64 14) ∧ g 30 = (bl ((((l ++ 128#8 :: List.replicate ((119 - l.length % 64) % 64) 0#8).length : Int) % 64) != 56)) ∧ g 39 = (bl false) ∧ g 55 = (bl (decide (((64 * (M.length / 64) : Nat) : Int) < (M.length : Int)))) ∧ g 233 = (bl true) ∧ True) ⟨s0, s2, s3, s4, s5, s6, s7, s8, s19, rfl, s30, s39, s55, rfl, trivial⟩ ?_
         rintro fr190 ⟨s0, s2, s3, s4, s5, s6, s7, s8, s19, s20, s30, s39, s55, s233, _⟩
         refine cw_region <| rM rfl s20 <| rw_q (v := (i64 15)) rfl (ev_i64_add (a := 14) (b := 1) rfl rfl oM oM) <| rw_q rfl (ev_assign (v := (i64 15)) rfl) ?_
         refine rN (cr_succ (cw_seq (sR ?_)))
         refine rw_q rfl (ev_move (v := (i64 15)) rfl) <| rw_q rfl (ev_i64_lss (a := 15) (b := 32) rfl rfl) ?_
         refine rN ?_
         refine cw_cond_t rfl (by decide) ?_
         refine cw_skip (kThen_normal (cw_seq (cw_block (cw_region ?_))))
         refine rw_q rfl (ev_move (v := (i64 15)) rfl) <| rw_q rfl (ev_move (v := (i64 15)) rfl) <| rw_q (v := (i64 3)) rfl (ev_i64_quo (a := 15) (b := 4) rfl rfl oM oM oM) <| rw_q rfl (ev_ia_arr (r := 3) (i := 3) oM uT94 ti55 s7 rfl oM oM) <| rw_q (v := (u32 h3)) rfl (ev_load1 uT55 rfl rfl hm189.h1 (get_clD _ _ 0 (by simp))) <| rw_q rfl (ev_move (v := (i64 15)) rfl) ?_
         refine rw_q (v := (i64 3)) rfl (ev_i64_rem (a := 15) (b := 4) rfl rfl oM oM oM) <| rw_q (v := (i64 24)) rfl (ev_i64_mul (a := 8) (b := 3) rfl rfl oM oM) <| rw_q (v := (i64 0)) rfl (ev_i64_sub (a := 24) (b := 24) rfl rfl oM oM) <| rw_q rfl (ev_u32_shr (b := 0) rfl rfl oM) <| rw_q rfl (ev_conv_u32_u8 ⟨_, uT55⟩ uT5 rfl) <| rw_q rfl (ev_ia_arr (r := 15) (i := 15) oM uT23 ti5 s19 rfl oM oM) ?_
         refine rw_n (or_store_cl' (f := u8) (l' := [(h0 >>> 24).setWidth 8, (h0 >>> 16).setWidth 8, (h0 >>> 8).setWidth 8, (h0 >>> 0).setWidth 8, (h1 >>> 24).setWidth 8, (h1 >>> 16).setWidth 8, (h1 >>> 8).setWidth 8, (h1 >>> 0).setWidth 8, (h2 >>> 24).setWidth 8, (h2 >>> 16).setWidth 8, (h2 >>> 8).setWidth 8, (h2 >>> 0).setWidth 8, (h3 >>> 24).setWidth 8, (h3 >>> 16).setWidth 8, (h3 >>> 8).setWidth 8, (h3 >>> 0).setWidth 8, 0, 0, 0, 0, 0, 0, 0, 0, 0, 0, 0, 0, 0, 0, 0, 0]) rfl u8_one ti5 rfl rfl hm189.h0 (by simp) (.inl (Nat.zero_le _))) ?_
         rintro _ w191 uq191
         have hm191 := hm189.upd0 uq191
         refine rw_nil (kBlk_normal ?_)
         refine CW.abs (fun g => g 0 = vb ∧ g 2 = (ptr b2 0) ∧ g 3 = sv43 ∧ g 4 = (u64 ((BitVec.ofInt 64 (l.length : Int)) * 8#64)) ∧ g 5 = (i64 (-1)) ∧ g 6 = (ptr b6 0) ∧ g 7 = (ptr b7 0) ∧ g 8 = (i64 ((64 * (M.length / 64) : Nat) : Int)) ∧ g 19 = (ptr b19 0) ∧ g 20 = (i64 15) ∧ g 30 = (bl ((((l ++ 128#8 :: List.replicate ((119 - l.length % 64) % 64) 0#8).length : Int) % 64) != 56)) ∧ g 39 = (bl false) ∧ g 55 = (bl (decide (((64 * (M.length / 64) : Nat) : Int) < (M.length : Int)))) ∧ g 233 = (bl true) ∧ True) ⟨s0, s2, s3, s4, s5, s6, s7, s8, s19, rfl, s30, s39, s55, rfl, trivial⟩ ?_
         rintro fr192 ⟨s0, s2, s3, s4, s5, s6, s7, s8, s19, s20, s30, s39, s55, s233, _⟩
         refine cw_region <| rM rfl s20 <| rw_q (v := (i64 16)) rfl (ev_i64_add (a := 15) (b := 1) rfl rfl oM oM) <| rw_q rfl (ev_assign (v := (i64 16)) rfl) ?_
         refine rN (cr_succ (cw_seq (sR ?_)))
         refine rw_q rfl (ev_move (v := (i64 16)) rfl) <| rw_q rfl (ev_i64_lss (a := 16) (b := 32) rfl rfl) ?_
         refine rN ?_
         refine cw_cond_t rfl (by decide) ?_
         refine cw_skip (kThen_normal (cw_seq (cw_block (cw_region ?_))))
         refine rw_q rfl (ev_move (v := (i64 16)) rfl) <| rw_q rfl (ev_move (v := (i64 16)) rfl) <| rw_q (v := (i64 4)) rfl (ev_i64_quo (a := 16) (b := 4) rfl rfl oM oM oM) <| rw_q rfl (ev_ia_arr (r := 4) (i := 4) oM uT94 ti55 s7 rfl oM oM) <| rw_q (v := (u32 h4)) rfl (ev_load1 uT55 rfl rfl hm191.h1 (get_clD _ _ 0 (by simp))) <| rw_q rfl (ev_move (v := (i64 16)) rfl) ?_
         refine rw_q (v := (i64 0)) rfl (ev_i64_rem (a := 16) (b := 4) rfl rfl oM oM oM) <| rw_q (v := (i64 0)) rfl (ev_i64_mul (a := 8) (b := 0) rfl rfl oM oM) <| rw_q (v := (i64 24)) rfl (ev_i64_sub (a := 24) (b := 0) rfl rfl oM oM) <| rw_q rfl (ev_u32_shr (b := 24) rfl rfl oM) <| rw_q rfl (ev_conv_u32_u8 ⟨_, uT55⟩ uT5 rfl) <| rw_q rfl (ev_ia_arr (r := 16) (i := 16) oM uT23 ti5 s19 rfl oM oM) ?_
         refine rw_n (or_store_cl' (f := u8) (l' := [(h0 >>> 24).setWidth 8, (h0 >>> 16).setWidth 8, (h0 >>> 8).setWidth 8, (h0 >>> 0).setWidth 8, (h1 >>> 24).setWidth 8, (h1 >>> 16).setWidth 8, (h1 >>> 8).setWidth 8, (h1 >>> 0).setWidth 8, (h2 >>> 24).setWidth 8, (h2 >>> 16).setWidth 8, (h2 >>> 8).setWidth 8, (h2 >>> 0).setWidth 8, (h3 >>> 24).setWidth 8, (h3 >>> 16).setWidth 8, (h3 >>> 8).setWidth 8, (h3 >>> 0).setWidth 8, (h4 >>> 24).setWidth 8, 0, 0, 0, 0, 0, 0, 0, 0, 0, 0, 0, 0, 0, 0, 0]) rfl u8_one ti5 rfl rfl hm191.h0 (by simp) (.inl (Nat.zero_le _))) ?_
         rintro _ w193 uq193
         have hm193 := hm191.upd0 uq193
         refine rw_nil (kBlk_normal ?_)
         refine CW.abs (fun g => g 0 = vb ∧ g 2 = (ptr b2 0) ∧ g 3 = sv43 ∧ g 4 = (u64 ((BitVec.ofInt 64 (l.length : Int)) * 8#64)) ∧ g 5 = (i64 (-1)) ∧ g 6 = (ptr b6 0) ∧ g 7 = (ptr b7 0) ∧ g 8 = (i64 ((64 * (M.length / 64) : Nat) : Int)) ∧ g 19 = (ptr b19 0) ∧ g 20 = (i64 16) ∧ g 30 = (bl ((((l ++ 128#8 :: List.replicate ((119 - l.length % 64) % 64) 0#8).length : Int) % 64) != 56)) ∧ g 39 = (bl false) ∧ g 55 = (bl (decide (((64 * (M.length / 64) : Nat) : Int) < (M.length : Int)))) ∧ g 233 = (bl true) ∧ True) ⟨s0, s2, s3, s4, s5, s6, s7, s8, s19, rfl, s30, s39, s55, rfl, trivial⟩ ?_
         rintro fr194 ⟨s0, s2, s3, s4, s5, s6, s7, s8, s19, s20, s30, s39, s55, s233, _⟩
         refine cw_region <| rM rfl s20 <| rw_q (v := (i64 17)) rfl (ev_i64_add (a := 16) (b := 1) rfl rfl oM oM) <| rw_q rfl (ev_assign (v := (i64 17)) rfl) ?_
         refine rN (cr_succ (cw_seq (sR ?_)))
         refine rw_q rfl (ev_move (v := (i64 17)) rfl) <| rw_q rfl (ev_i64_lss (a := 17) (b := 32) rfl rfl) ?_
         refine rN ?_
         refine cw_cond_t rfl (by decide) ?_
         refine cw_skip (kThen_normal (cw_seq (cw_block (cw_region ?_))))
         refine rw_q rfl (ev_move (v := (i64 17)) rfl) <| rw_q rfl (ev_move (v := (i64 17)) rfl) <| rw_q (v := (i64 4)) rfl (ev_i64_quo (a := 17) (b := 4) rfl rfl oM oM oM) <| rw_q rfl (ev_ia_arr (r := 4) (i := 4) oM uT94 ti55 s7 rfl oM oM) <| rw_q (v := (u32 h4)) rfl (ev_load1 uT55 rfl rfl hm193.h1 (get_clD _ _ 0 (by simp))) <| rw_q rfl (ev_move (v := (i64 17)) rfl) ?_
         refine rw_q (v := (i64 1)) rfl (ev_i64_rem (a := 17) (b := 4) rfl rfl oM oM oM) <| rw_q (v := (i64 8)) rfl (ev_i64_mul (a := 8) (b := 1) rfl rfl oM oM) <| rw_q (v := (i64 16)) rfl (ev_i64_sub (a := 24) (b := 8) rfl rfl oM oM) <| rw_q rfl (ev_u32_shr (b := 16) rfl rfl oM) <| rw_q rfl (ev_conv_u32_u8 ⟨_, uT55⟩ uT5 rfl) <| rw_q rfl (ev_ia_arr (r := 17) (i := 17) oM uT23 ti5 s19 rfl oM oM) ?_
         refine rw_n (or_store_cl' (f := u8) (l' := [(h0 >>> 24).setWidth 8, (h0 >>> 16).setWidth 8, (h0 >>> 8).setWidth 8, (h0 >>> 0).setWidth 8, (h1 >>> 24).setWidth 8, (h1 >>> 16).setWidth 8, (h1 >>> 8).setWidth 8, (h1 >>> 0).setWidth 8, (h2 >>> 24).setWidth 8, (h2 >>> 16).setWidth 8, (h2 >>> 8).setWidth 8, (h2 >>> 0).setWidth 8, (h3 >>> 24).setWidth 8, (h3 >>> 16).setWidth 8, (h3 >>> 8).setWidth 8, (h3 >>> 0).setWidth 8, (h4 >>> 24).setWidth 8, (h4 >>> 16).setWidth 8, 0, 0, 0, 0, 0, 0, 0, 0, 0, 0, 0, 0, 0, 0]) rfl u8_one ti5 rfl rfl hm193.h0 (by simp) (.inl (Nat.zero_le _))) ?_
         rintro _ w195 uq195
         have hm195 := hm193.upd0 uq195
         refine rw_nil (kBlk_normal ?_)
         refine CW.abs (fun g => g 0 = vb ∧ g 2 = (ptr b2 0) ∧ g 3 = sv43 ∧ g 4 = (u64 ((BitVec.ofInt 64 (l.length : Int)) * 8#64)) ∧ g 5 = (i64 (-1)) ∧ g 6 = (ptr b6 0) ∧ g 7 = (ptr b7 0) ∧ g 8 = (i64 ((64 * (M.length / 64) : Nat) : Int)) ∧ g 19 = (ptr b19 0) ∧ g 20 = (i64 17) ∧ g 30 = (bl ((((l ++ 128#8 :: List.replicate ((119 - l.length % 64) % 64) 0#8).length : Int) % 64) != 56)) ∧ g 39 = (bl false) ∧ g 55 = (bl (decide (((64 * (M.length / 64) : Nat) : Int) < (M.length : Int)))) ∧ g 233 = (bl true) ∧ True) ⟨s0, s2, s3, s4, s5, s6, s7, s8, s19, rfl, s30, s39, s55, rfl, trivial⟩ ?_
         rintro fr196 ⟨s0, s2, s3, s4, s5, s6, s7, s8, s19, s20, s30, s39, s55, s233, _⟩
         refine cw_region <| rM rfl s20 <| rw_q (v := (i64 18)) rfl (ev_i64_add (a := 17) (b := 1) rfl rfl oM oM) <| rw_q rfl (ev_assign (v := (i64 18)) rfl) ?_
         refine rN (cr_succ (cw_seq (sR ?_)))
         refine rw_q rfl (ev_move (v := (i64 18)) rfl) <| rw_q rfl (ev_i64_lss (a := 18) (b := 32) rfl rfl) ?_
         refine rN ?_
         refine cw_cond_t rfl (by decide) ?_
         refine cw_skip (kThen_normal (cw_seq (cw_block (cw_region ?_))))
         refine rw_q rfl (ev_move (v := (i64 18)) rfl) <| rw_q rfl (ev_move (v := (i64 18)) rfl) <| rw_q (v := (i64 4)) rfl (ev_i64_quo (a := 18) (b := 4) rfl rfl oM oM oM) <| rw_q rfl (ev_ia_arr (r := 4) (i := 4) oM uT94 ti55 s7 rfl oM oM) <| rw_q (v := (u32 h4)) rfl (ev_load1 uT55 rfl rfl hm195.h1 (get_clD _ _ 0 (by simp))) <| rw_q rfl (ev_move (v := (i64 18)) rfl) ?_
         refine rw_q (v := (i64 2)) rfl (ev_i64_rem (a := 18) (b := 4) rfl rfl oM oM oM) <| rw_q (v := (i64 16)) rfl (ev_i64_mul (a := 8) (b := 2) rfl rfl oM oM) <| rw_q (v := (i64 8)) rfl (ev_i64_sub (a := 24) (b := 16) rfl rfl oM oM) <| rw_q rfl (ev_u32_shr (b := 8) rfl rfl oM) <| rw_q rfl (ev_conv_u32_u8 ⟨_, uT55⟩ uT5 rfl) <| rw_q rfl (ev_ia_arr (r := 18) (i := 18) oM uT23 ti5 s19 rfl oM oM) ?_
         refine rw_n (or_store_cl' (f := u8) (l' := [(h0 >>> 24).setWidth 8, (h0 >>> 16).setWidth 8, (h0 >>> 8).setWidth 8, (h0 >>> 0).setWidth 8, (h1 >>> 24).setWidth 8, (h1 >>> 16).setWidth 8, (h1 >>> 8).setWidth 8, (h1 >>> 0).setWidth 8, (h2 >>> 24).setWidth 8, (h2 >>> 16).setWidth 8, (h2 >>> 8).setWidth 8, (h2 >>> 0).setWidth 8, (h3 >>> 24).setWidth 8, (h3 >>> 16).setWidth 8, (h3 >>> 8).setWidth 8, (h3 >>> 0).setWidth 8, (h4 >>> 24).setWidth 8, (h4 >>> 16).setWidth 8, (h4 >>> 8).setWidth 8, 0, 0, 0, 0, 0, 0, 0, 0, 0, 0, 0, 0, 0]) rfl u8_one ti5 rfl rfl hm195.h0 (by simp) (.inl (Nat.zero_le _))) ?_
         rintro _ w197 uq197
         have hm197 := hm195.upd0 uq197
         refine rw_nil (kBlk_normal ?_)
         refine CW.abs (fun g => g 0 = vb ∧ g 2 = (ptr b2 0) ∧ g 3 = sv43 ∧ g 4 = (u64 ((BitVec.ofInt 64 (l.length : Int)) * 8#64)) ∧ g 5 = (i64 (-1)) ∧ g 6 = (ptr b6 0) ∧ g 7 = (ptr b7 0) ∧ g 8 = (i64 ((64 * (M.length / 64) : Nat) : Int)) ∧ g 19 = (ptr b19 0) ∧ g 20 = (i64 18) ∧ g 30 = (bl ((((l ++ 128#8 :: List.replicate ((119 - l.length % 64) % 64) 0#8).length : Int) % 64) != 56)) ∧ g 39 = (bl false) ∧ g 55 = (bl (decide (((64 * (M.length / 64) : Nat) : Int) < (M.length : Int)))) ∧ g 233 = (bl true) ∧ True) ⟨s0, s2, s3, s4, s5, s6, s7, s8, s19, rfl, s30, s39, s55, rfl, trivial⟩ ?_
         rintro fr198 ⟨s0, s2, s3, s4, s5, s6, s7, s8, s19, s20, s30, s39, s55, s233, _⟩
         refine cw_region <| rM rfl s20 <| rw_q (v := (i64 19)) rfl (ev_i64_add (a := 18) (b := 1) rfl rfl oM oM) <| rw_q rfl (ev_assign (v := (i64 19)) rfl) ?_
         refine rN (cr_succ (cw_seq (sR ?_)))
         refine rw_q rfl (ev_move (v := (i64 19)) rfl) <| rw_q rfl (ev_i64_lss (a := 19) (b := 32) rfl rfl) ?_
         refine rN ?_
         refine cw_cond_t rfl (by decide) ?_
         refine cw_skip (kThen_normal (cw_seq (cw_block (cw_region ?_))))
         refine rw_q rfl (ev_move (v := (i64 19)) rfl) <| rw_q rfl (ev_move (v := (i64 19)) rfl) <| rw_q (v := (i64 4)) rfl (ev_i64_quo (a := 19) (b := 4) rfl rfl oM oM oM) <| rw_q rfl (ev_ia_arr (r := 4) (i := 4) oM uT94 ti55 s7 rfl oM oM) <| rw_q (v := (u32 h4)) rfl (ev_load1 uT55 rfl rfl hm197.h1 (get_clD _ _ 0 (by simp))) <| rw_q rfl (ev_move (v := (i64 19)) rfl) ?_
         refine rw_q (v := (i64 3)) rfl (ev_i64_rem (a := 19) (b := 4) rfl rfl oM oM oM) <| rw_q (v := (i64 24)) rfl (ev_i64_mul (a := 8) (b := 3) rfl rfl oM oM) <| rw_q (v := (i64 0)) rfl (ev_i64_sub (a := 24) (b := 24) rfl rfl oM oM) <| rw_q rfl (ev_u32_shr (b := 0) rfl rfl oM) <| rw_q rfl (ev_conv_u32_u8 ⟨_, uT55⟩ uT5 rfl) <| rw_q rfl (ev_ia_arr (r := 19) (i := 19) oM uT23 ti5 s19 rfl oM oM) ?_
         refine rw_n (or_store_cl' (f := u8) (l' := [(h0 >>> 24).setWidth 8, (h0 >>> 16).setWidth 8, (h0 >>> 8).setWidth 8, (h0 >>> 0).setWidth 8, (h1 >>> 24).setWidth 8, (h1 >>> 16).setWidth 8, (h1 >>> 8).setWidth 8, (h1 >>> 0).setWidth 8, (h2 >>> 24).setWidth 8, (h2 >>> 16).setWidth 8, (h2 >>> 8).setWidth 8, (h2 >>> 0).setWidth 8, (h3 >>> 24).setWidth 8, (h3 >>> 16).setWidth 8, (h3 >>> 8).setWidth 8, (h3 >>> 0).setWidth 8, (h4 >>> 24).setWidth 8, (h4 >>> 16).setWidth 8, (h4 >>> 8).setWidth 8, (h4 >>> 0).setWidth 8, 0, 0, 0, 0, 0, 0, 0, 0, 0, 0, 0, 0]) rfl u8_one ti5 rfl rfl hm197.h0 (by simp) (.inl (Nat.zero_le _))) ?_
         rintro _ w199 uq199
         have hm199 := hm197.upd0 uq199
         refine rw_nil (kBlk_normal ?_)
         refine CW.abs (fun g => g 0 = vb ∧ g 2 = (ptr b2 0) ∧ g 3 = sv43 ∧ g 4 = (u64 ((BitVec.ofInt 64 (l.length : Int)) * 8#64)) ∧ g 5 = (i64 (-1)) ∧ g 6 = (ptr b6 0) ∧ g 7 = (ptr b7 0) ∧ g 8 = (i64 ((64 * (M.length / 64) : Nat) : Int)) ∧ g 19 = (ptr b19 0) ∧ g 20 = (i64 19) ∧ g 30 = (bl ((((l ++ 128#8 :: List.replicate ((119 - l.length % 64) % 64) 0#8).length : Int) % 64) != 56)) ∧ g 39 = (bl false) ∧ g 55 = (bl (decide (((64 * (M.length / 64) : Nat) : Int) < (M.length : Int)))) ∧ g 233 = (bl true) ∧ True) ⟨s0, s2, s3, s4, s5, s6, s7, s8, s19, rfl, s30, s39, s55, rfl, trivial⟩ ?_
         rintro fr200 ⟨s0, s2, s3, s4, s5, s6, s7, s8, s19, s20, s30, s39, s55, s233, _⟩
         refine cw_region <| rM rfl s20 <| rw_q (v := (i64 20)) rfl (ev_i64_add (a := 19) (b := 1) rfl rfl oM oM) <| rw_q rfl (ev_assign (v := (i64 20)) rfl) ?_
         refine rN (cr_succ (cw_seq (sR ?_)))
         refine rw_q rfl (ev_move (v := (i64 20)) rfl) <| rw_q rfl (ev_i64_lss (a := 20) (b := 32) rfl rfl) ?_
         refine rN ?_
         refine cw_cond_t rfl (by decide) ?_
         refine cw_skip (kThen_normal (cw_seq (cw_block (cw_region ?_))))
         refine rw_q rfl (ev_move (v := (i64 20)) rfl) <| rw_q rfl (ev_move (v := (i64 20)) rfl) <| rw_q (v := (i64 5)) rfl (ev_i64_quo (a := 20) (b := 4) rfl rfl oM oM oM) <| rw_q rfl (ev_ia_arr (r := 5) (i := 5) oM uT94 ti55 s7 rfl oM oM) <| rw_q (v := (u32 h5)) rfl (ev_load1 uT55 rfl rfl hm199.h1 (get_clD _ _ 0 (by simp))) <| rw_q rfl (ev_move (v := (i64 20)) rfl) ?_
         refine rw_q (v := (i64 0)) rfl (ev_i64_rem (a := 20) (b := 4) rfl rfl oM oM oM) <| rw_q (v := (i64 0)) rfl (ev_i64_mul (a := 8) (b := 0) rfl rfl oM oM) <| rw_q (v := (i64 24)) rfl (ev_i64_sub (a := 24) (b := 0) rfl rfl oM oM) <| rw_q rfl (ev_u32_shr (b := 24) rfl rfl oM) <| rw_q rfl (ev_conv_u32_u8 ⟨_, uT55⟩ uT5 rfl) <| rw_q rfl (ev_ia_arr (r := 20) (i := 20) oM uT23 ti5 s19 rfl oM oM) ?_
         refine rw_n (or_store_cl' (f := u8) (l' := [(h0 >>> 24).setWidth 8, (h0 >>> 16).setWidth 8, (h0 >>> 8).setWidth 8, (h0 >>> 0).setWidth 8, (h1 >>> 24).setWidth 8, (h1 >>> 16).setWidth 8, (h1 >>> 8).setWidth 8, (h1 >>> 0).setWidth 8, (h2 >>> 24).setWidth 8, (h2 >>> 16).setWidth 8, (h2 >>> 8).setWidth 8, (h2 >>> 0).setWidth 8, (h3 >>> 24).setWidth 8, (h3 >>> 16).setWidth 8, (h3 >>> 8).setWidth 8, (h3 >>> 0).setWidth 8, (h4 >>> 24).setWidth 8, (h4 >>> 16).setWidth 8, (h4 >>> 8).setWidth 8, (h4 >>> 0).setWidth 8, (h5 >>> 24).setWidth 8, 0, 0, 0, 0, 0, 0, 0, 0, 0, 0, 0]) rfl u8_one ti5 rfl rfl hm199.h0 (by simp) (.inl (Nat.zero_le _))) ?_
         rintro _ w201 uq201
         have hm201 := hm199.upd0 uq201
         refine rw_nil (kBlk_normal ?_)
         refine CW.abs (fun g => g 0 = vb ∧ g 2 = (ptr b2 0) ∧ g 3 = sv43 ∧ g 4 = (u64 ((BitVec.ofInt 64 (l.length : Int)) * 8#64)) ∧ g 5 = (i64 (-1)) ∧ g 6 = (ptr b6 0) ∧ g 7 = (ptr b7 0) ∧ g 8 = (i64 ((64 * (M.length / 64) : Nat) : Int)) ∧ g 19 = (ptr b19 0) ∧ g 20 = (i64 20) ∧ g 30 = (bl ((((l ++ 128#8 :: List.replicate ((119 - l.length % 64) % 64) 0#8).length : Int) % 64) != 56)) ∧ g 39 = (bl false) ∧ g 55 = (bl (decide (((64 * (M.length / 64) : Nat) : Int) < (M.length : Int)))) ∧ g 233 = (bl true) ∧ True) ⟨s0, s2, s3, s4, s5, s6, s7, s8, s19, rfl, s30, s39, s55, rfl, trivial⟩ ?_
         rintro fr202 ⟨s0, s2, s3, s4, s5, s6, s7, s8, s19, s20, s30, s39, s55, s233, _⟩
         refine cw_region <| rM rfl s20 <| rw_q (v := (i64 21)) rfl (ev_i64_add (a := 20) (b := 1) rfl rfl oM oM) <| rw_q rfl (ev_assign (v := (i64 21)) rfl) ?_
         refine rN (cr_succ (cw_seq (sR ?_)))
         refine rw_q rfl (ev_move (v := (i64 21)) rfl) <| rw_q rfl (ev_i64_lss (a := 21) (b := 32) rfl rfl) ?_
         refine rN ?_
         refine cw_cond_t rfl (by decide) ?_
         refine cw_skip (kThen_normal (cw_seq (cw_block (cw_region ?_))))
         refine rw_q rfl (ev_move (v := (i64 21)) rfl) <| rw_q rfl (ev_move (v := (i64 21)) rfl) <| rw_q (v := (i64 5)) rfl (ev_i64_quo (a := 21) (b := 4) rfl rfl oM oM oM) <| rw_q rfl (ev_ia_arr (r := 5) (i := 5) oM uT94 ti55 s7 rfl oM oM) <| rw_q (v := (u32 h5)) rfl (ev_load1 uT55 rfl rfl hm201.h1 (get_clD _ _ 0 (by simp))) <| rw_q rfl (ev_move (v := (i64 21)) rfl) ?_
         refine rw_q (v := (i64 1)) rfl (ev_i64_rem (a := 21) (b := 4) rfl rfl oM oM oM) <| rw_q (v := (i64 8)) rfl (ev_i64_mul (a := 8) (b := 1) rfl rfl oM oM) <| rw_q (v := (i64 16)) rfl (ev_i64_sub (a := 24) (b := 8) rfl rfl oM oM) <| rw_q rfl (ev_u32_shr (b := 16) rfl rfl oM) <| rw_q rfl (ev_conv_u32_u8 ⟨_, uT55⟩ uT5 rfl) <| rw_q rfl (ev_ia_arr (r := 21) (i := 21) oM uT23 ti5 s19 rfl oM oM) ?_
         refine rw_n (or_store_cl' (f := u8) (l' := [(h0 >>> 24).setWidth 8, (h0 >>> 16).setWidth 8, (h0 >>> 8).setWidth 8, (h0 >>> 0).setWidth 8, (h1 >>> 24).setWidth 8, (h1 >>> 16).setWidth 8, (h1 >>> 8).setWidth 8, (h1 >>> 0).setWidth 8, (h2 >>> 24).setWidth 8, (h2 >>> 16).setWidth 8, (h2 >>> 8).setWidth 8, (h2 >>> 0).setWidth 8, (h3 >>> 24).setWidth 8, (h3 >>> 16).setWidth 8, (h3 >>> 8).setWidth 8, (h3 >>> 0).setWidth 8, (h4 >>> 24).setWidth 8, (h4 >>> 16).setWidth 8, (h4 >>> 8).setWidth 8, (h4 >>> 0).setWidth 8, (h5 >>> 24).setWidth 8, (h5 >>> 16).setWidth 8, 0, 0, 0, 0, 0, 0, 0, 0, 0, 0]) rfl u8_one ti5 rfl rfl hm201.h0 (by simp) (.inl (Nat.zero_le _))) ?_
         rintro _ w203 uq203
         have hm203 := hm201.upd0 uq203
         refine rw_nil (kBlk_normal ?_)
         refine CW.abs (fun g => g 0 = vb ∧ g 2 = (ptr b2 0) ∧ g 3 = sv43 ∧ g 4 = (u64 ((BitVec.ofInt 64 (l.length : Int)) * 8#64)) ∧ g 5 = (i64 (-1)) ∧ g 6 = (ptr b6 0) ∧ g 7 = (ptr b7 0) ∧ g 8 = (i64 ((64 * (M.length / 64) : Nat) : Int)) ∧ g 19 = (ptr b19 0) ∧ g 20 = (i64 21) ∧ g 30 = (bl ((((l ++ 128#8 :: List.replicate ((119 - l.length % 64) % 64) 0#8).length : Int) % 64) != 56)) ∧ g 39 = (bl false) ∧ g 55 = (bl (decide (((64 * (M.length / 64) : Nat) : Int) < (M.length : Int)))) ∧ g 233 = (bl true) ∧ True) ⟨s0, s2, s3, s4, s5, s6, s7, s8, s19, rfl, s30, s39, s55, rfl, trivial⟩ ?_
         rintro fr204 ⟨s0, s2, s3, s4, s5, s6, s7, s8, s19, s20, s30, s39, s55, s233, _⟩
         refine cw_region <| rM rfl s20 <| rw_q (v := (i64 22)) rfl (ev_i64_add (a := 21) (b := 1) rfl rfl oM oM) <| rw_q rfl (ev_assign (v := (i64 22)) rfl) ?_
         refine rN (cr_succ (cw_seq (sR ?_)))
         refine rw_q rfl (ev_move (v := (i64 22)) rfl) <| rw_q rfl (ev_i64_lss (a := 22) (b := 32) rfl rfl) ?_
         refine rN ?_
         refine cw_cond_t rfl (by decide) ?_
         refine cw_skip (kThen_normal (cw_seq (cw_block (cw_region ?_))))
         refine rw_q rfl (ev_move (v := (i64 22)) rfl) <| rw_q rfl (ev_move (v := (i64 22)) rfl) <| rw_q (v := (i64 5)) rfl (ev_i64_quo (a := 22) (b := 4) rfl rfl oM oM oM) <| rw_q rfl (ev_ia_arr (r := 5) (i := 5) oM uT94 ti55 s7 rfl oM oM) <| rw_q (v := (u32 h5)) rfl (ev_load1 uT55 rfl rfl hm203.h1 (get_clD _ _ 0 (by simp))) <| rw_q rfl (ev_move (v := (i64 22)) rfl) ?_
         refine rw_q (v := (i64 2)) rfl (ev_i64_rem (a := 22) (b := 4) rfl rfl oM oM oM) <| rw_q (v := (i64 16)) rfl (ev_i64_mul (a := 8) (b := 2) rfl rfl oM oM) <| rw_q (v := (i64 8)) rfl (ev_i64_sub (a := 24) (b := 16) rfl rfl oM oM) <| rw_q rfl (ev_u32_shr (b := 8) rfl rfl oM) <| rw_q rfl (ev_conv_u32_u8 ⟨_, uT55⟩ uT5 rfl) <| rw_q rfl (ev_ia_arr (r := 22) (i := 22) oM uT23 ti5 s19 rfl oM oM) ?_
         refine rw_n (or_store_cl' (f := u8) (l' := [(h0 >>> 24).setWidth 8, (h0 >>> 16).setWidth 8, (h0 >>> 8).setWidth 8, (h0 >>> 0).setWidth 8, (h1 >>> 24).setWidth 8, (h1 >>> 16).setWidth 8, (h1 >>> 8).setWidth 8, (h1 >>> 0).setWidth 8, (h2 >>> 24).setWidth 8, (h2 >>> 16).setWidth 8, (h2 >>> 8).setWidth 8, (h2 >>> 0).setWidth 8, (h3 >>> 24).setWidth 8, (h3 >>> 16).setWidth 8, (h3 >>> 8).setWidth 8, (h3 >>> 0).setWidth 8, (h4 >>> 24).setWidth 8, (h4 >>> 16).setWidth 8, (h4 >>> 8).setWidth 8, (h4 >>> 0).setWidth 8, (h5 >>> 24).setWidth 8, (h5 >>> 16).setWidth 8, (h5 >>> 8).setWidth 8, 0, 0, 0, 0, 0, 0, 0, 0, 0]) rfl u8_one ti5 rfl rfl hm203.h0 (by simp) (.inl (Nat.zero_le _))) ?_
         rintro _ w205 uq205
         have hm205 := hm203.upd0 uq205
         refine rw_nil (kBlk_normal ?_)
         refine CW.abs (fun g => g 0 = vb ∧ g 2 = (ptr b2 0) ∧ g 3 = sv43 ∧ g 4 = (u64 ((BitVec.ofInt 64 (l.length : Int)) * 8#64)) ∧ g 5 = (i64 (-1)) ∧ g 6 = (ptr b6 0) ∧ g 7 = (ptr b7 0) ∧ g 8 = (i64 ((64 * (M.length / 64) : Nat) : Int)) ∧ g 19 = (ptr b19 0) ∧ g 20 = (i64 22) ∧ g 30 = (bl ((((l ++ 128#8 :: List.replicate ((119 - l.length % 64) % 64) 0#8).length : Int) % 64) != 56)) ∧ g 39 = (bl false) ∧ g 55 = (bl (decide (((64 * (M.length / 64) : Nat) : Int) < (M.length : Int)))) ∧ g 233 = (bl true) ∧ True) ⟨s0, s2, s3, s4, s5, s6, s7, s8, s19, rfl, s30, s39, s55, rfl, trivial⟩ ?_
         rintro fr206 ⟨s0, s2, s3, s4, s5, s6, s7, s8, s19, s20, s30, s39, s55, s233, _⟩
         refine cw_region <| rM rfl s20 <| rw_q (v := (i64 23)) rfl (ev_i64_add (a := 22) (b := 1) rfl rfl oM oM) <| rw_q rfl (ev_assign (v := (i64 23)) rfl) ?_
         refine rN (cr_succ (cw_seq (sR ?_)))
         refine rw_q rfl (ev_move (v := (i64 23)) rfl) <| rw_q rfl (ev_i64_lss (a := 23) (b := 32) rfl rfl) ?_
         refine rN ?_
         refine cw_cond_t rfl (by decide) ?_
         refine cw_skip (kThen_normal (cw_seq (cw_block (cw_region ?_))))
         refine rw_q rfl (ev_move (v := (i64 23)) rfl) <| rw_q rfl (ev_move (v := (i64 23)) rfl) <| rw_q (v := (i64 5)) rfl (ev_i64_quo (a := 23) (b := 4) rfl rfl oM oM oM) <| rw_q rfl (ev_ia_arr (r := 5) (i := 5) oM uT94 ti55 s7 rfl oM oM) <| rw_q (v := (u32 h5)) rfl (ev_load1 uT55 rfl rfl hm205.h1 (get_clD _ _ 0 (by simp))) <| rw_q rfl (ev_move (v := (i64 23)) rfl) ?_
         refine rw_q (v := (i64 3)) rfl (ev_i64_rem (a := 23) (b := 4) rfl rfl oM oM oM) <| rw_q (v := (i64 24)) rfl (ev_i64_mul (a := 8) (b := 3) rfl rfl oM oM) <| rw_q (v := (i64 0)) rfl (ev_i64_sub (a := 24) (b := 24) rfl rfl oM oM) <| rw_q rfl (ev_u32_shr (b := 0) rfl rfl oM) <| rw_q rfl (ev_conv_u32_u8 ⟨_, uT55⟩ uT5 rfl) <| rw_q rfl (ev_ia_arr (r := 23) (i := 23) oM uT23 ti5 s19 rfl oM oM) ?_
         refine rw_n (or_store_cl' (f := u8) (l' := [(h0 >>> 24).setWidth 8, (h0 >>> 16).setWidth 8, (h0 >>> 8).setWidth 8, (h0 >>> 0).setWidth 8, (h1 >>> 24).setWidth 8, (h1 >>> 16).setWidth 8, (h1 >>> 8).setWidth 8, (h1 >>> 0).setWidth 8, (h2 >>> 24).setWidth 8, (h2 >>> 16).setWidth 8, (h2 >>> 8).setWidth 8, (h2 >>> 0).setWidth 8, (h3 >>> 24).setWidth 8, (h3 >>> 16).setWidth 8, (h3 >>> 8).setWidth 8, (h3 >>> 0).setWidth 8, (h4 >>> 24).setWidth 8, (h4 >>> 16).setWidth 8, (h4 >>> 8).setWidth 8, (h4 >>> 0).setWidth 8, (h5 >>> 24).setWidth 8, (h5 >>> 16).setWidth 8, (h5 >>> 8).setWidth 8, (h5 >>> 0).setWidth 8, 0, 0, 0, 0, 0, 0, 0, 0]) rfl u8_one ti5 rfl rfl hm205.h0 (by simp) (.inl (Nat.zero_le _))) ?_
         rintro _ w207 uq207
         have hm207 := hm205.upd0 uq207
         refine rw_nil (kBlk_normal ?_)
         refine CW.abs (fun g => g 0 = vb ∧ g 2 = (ptr b2 0) ∧ g 3 = sv43 ∧ g 4 = (u64 ((BitVec.ofInt 64 (l.length : Int)) * 8#64)) ∧ g 5 = (i64 (-1)) ∧ g 6 = (ptr b6 0) ∧ g 7 = (ptr b7 0) ∧ g 8 = (i64 ((64 * (M.length / 64) : Nat) : Int)) ∧ g 19 = (ptr b19 0) ∧ g 20 = (i64 23) ∧ g 30 = (bl ((((l ++ 128#8 :: List.replicate ((119 - l.length % 64) % 64) 0#8).length : Int) % 64) != 56)) ∧ g 39 = (bl false) ∧ g 55 = (bl (decide (((64 * (M.length / 64) : Nat) : Int) < (M.length : Int)))) ∧ g 233 = (bl true) ∧ True) ⟨s0, s2, s3, s4, s5, s6, s7, s8, s19, rfl, s30, s39, s55, rfl, trivial⟩ ?_
         rintro fr208 ⟨s0, s2, s3, s4, s5, s6, s7, s8, s19, s20, s30, s39, s55, s233, _⟩
         refine cw_region <| rM rfl s20 <| rw_q (v := (i64 24)) rfl (ev_i64_add (a := 23) (b := 1) rfl rfl oM oM) <| rw_q rfl (ev_assign (v := (i64 24)) rfl) ?_
         refine rN (cr_succ (cw_seq (sR ?_)))
         refine rw_q rfl (ev_move (v := (i64 24)) rfl) <| rw_q rfl (ev_i64_lss (a := 24) (b := 32) rfl rfl) ?_
         refine rN ?_
         refine cw_cond_t rfl (by decide) ?_
         refine cw_skip (kThen_normal (cw_seq (cw_block (cw_region ?_))))
         refine rw_q rfl (ev_move (v := (i64 24)) rfl) <| rw_q rfl (ev_move (v := (i64 24)) rfl) <| rw_q (v := (i64 6)) rfl (ev_i64_quo (a := 24) (b := 4) rfl rfl oM oM oM) <| rw_q rfl (ev_ia_arr (r := 6) (i := 6) oM uT94 ti55 s7 rfl oM oM) <| rw_q (v := (u32 h6)) rfl (ev_load1 uT55 rfl rfl hm207.h1 (get_clD _ _ 0 (by simp))) <| rw_q rfl (ev_move (v := (i64 24)) rfl) ?_
         refine rw_q (v := (i64 0)) rfl (ev_i64_rem (a := 24) (b := 4) rfl rfl oM oM oM) <| rw_q (v := (i64 0)) rfl (ev_i64_mul (a := 8) (b := 0) rfl rfl oM oM) <| rw_q (v := (i64 24)) rfl (ev_i64_sub (a := 24) (b := 0) rfl rfl oM oM) <| rw_q rfl (ev_u32_shr (b := 24) rfl rfl oM) <| rw_q rfl (ev_conv_u32_u8 ⟨_, uT55⟩ uT5 rfl) <| rw_q rfl (ev_ia_arr (r := 24) (i := 24) oM uT23 ti5 s19 rfl oM oM) ?_
         refine rw_n (or_store_cl' (f := u8) (l' := [(h0 >>> 24).setWidth 8, (h0 >>> 16).setWidth 8, (h0 >>> 8).setWidth 8, (h0 >>> 0).setWidth 8, (h1 >>> 24).setWidth 8, (h1 >>> 16).setWidth 8, (h1 >>> 8).setWidth 8, (h1 >>> 0).setWidth 8, (h2 >>> 24).setWidth 8, (h2 >>> 16).setWidth 8, (h2 >>> 8).setWidth 8, (h2 >>> 0).setWidth 8, (h3 >>> 24).setWidth 8, (h3 >>> 16).setWidth 8, (h3 >>> 8).setWidth 8, (h3 >>> 0).setWidth 8, (h4 >>> 24).setWidth 8, (h4 >>> 16).setWidth 8, (h4 >>> 8).setWidth 8, (h4 >>> 0).setWidth 8, (h5 >>> 24).setWidth 8, (h5 >>> 16).setWidth 8, (h5 >>> 8).setWidth 8, (h5 >>> 0).setWidth 8, (h6 >>> 24).setWidth 8, 0, 0, 0, 0, 0, 0, 0]) rfl u8_one ti5 rfl rfl hm207.h0 (by simp) (.inl (Nat.zero_le _))) ?_
         rintro _ w209 uq209
         have hm209 := hm207.upd0 uq209
         refine rw_nil (kBlk_normal ?_)
         refine CW.abs (fun g => g 0 = vb ∧ g 2 = (ptr b2 0) ∧ g 3 = sv43 ∧ g 4 = (u64 ((BitVec.ofInt 64 (l.length : Int)) * 8#64)) ∧ g 5 = (i64 (-1)) ∧ g 6 = (ptr b6 0) ∧ g 7 = (ptr b7 0) ∧ g 8 = (i64 ((64 * (M.length / 64) : Nat) : Int)) ∧ g 19 = (ptr b19 0) ∧ g 20 = (i64 24) ∧ g 30 = (bl ((((l ++ 128#8 :: List.replicate ((119 - l.length % 64) % 64) 0#8).length : Int) % 64) != 56)) ∧ g 39 = (bl false) ∧ g 55 = (bl (decide (((64 * (M.length / 64) : Nat) : Int) < (M.length : Int)))) ∧ g 233 = (bl true) ∧ True) ⟨s0, s2, s3, s4, s5, s6, s7, s8, s19, rfl, s30, s39, s55, rfl, trivial⟩ ?_
         rintro fr210 ⟨s0, s2, s3, s4, s5, s6, s7, s8, s19, s20, s30, s39, s55, s233, _⟩
         refine cw_region <| rM rfl s20 <| rw_q (v := (i64 25)) rfl (ev_i64_add (a := 24) (b := 1) rfl rfl oM oM) <| rw_q rfl (ev_assign (v := (i64 25)) rfl) ?_
         refine rN (cr_succ (cw_seq (sR ?_)))
         refine rw_q rfl (ev_move (v := (i64 25)) rfl) <| rw_q rfl (ev_i64_lss (a := 25) (b := 32) rfl rfl) ?_
         refine rN ?_
         refine cw_cond_t rfl (by decide) ?_
         refine cw_skip (kThen_normal (cw_seq (cw_block (cw_region ?_))))
         refine rw_q rfl (ev_move (v := (i64 25)) rfl) <| rw_q rfl (ev_move (v := (i64 25)) rfl) <| rw_q (v := (i64 6)) rfl (ev_i64_quo (a := 25) (b := 4) rfl rfl oM oM oM) <| rw_q rfl (ev_ia_arr (r := 6) (i := 6) oM uT94 ti55 s7 rfl oM oM) <| rw_q (v := (u32 h6)) rfl (ev_load1 uT55 rfl rfl hm209.h1 (get_clD _ _ 0 (by simp))) <| rw_q rfl (ev_move (v := (i64 25)) rfl) ?_
         refine rw_q (v := (i64 1)) rfl (ev_i64_rem (a := 25) (b := 4) rfl rfl oM oM oM) <| rw_q (v := (i64 8)) rfl (ev_i64_mul (a := 8) (b := 1) rfl rfl oM oM) <| rw_q (v := (i64 16)) rfl (ev_i64_sub (a := 24) (b := 8) rfl rfl oM oM) <| rw_q rfl (ev_u32_shr (b := 16) rfl rfl oM) <| rw_q rfl (ev_conv_u32_u8 ⟨_, uT55⟩ uT5 rfl) <| rw_q rfl (ev_ia_arr (r := 25) (i := 25) oM uT23 ti5 s19 rfl oM oM) ?_
         refine rw_n (or_store_cl' (f := u8) (l' := [(h0 >>> 24).setWidth 8, (h0 >>> 16).setWidth 8, (h0 >>> 8).setWidth 8, (h0 >>> 0).setWidth 8, (h1 >>> 24).setWidth 8, (h1 >>> 16).setWidth 8, (h1 >>> 8).setWidth 8, (h1 >>> 0).setWidth 8, (h2 >>> 24).setWidth 8, (h2 >>> 16).setWidth 8, (h2 >>> 8).setWidth 8, (h2 >>> 0).setWidth 8, (h3 >>> 24).setWidth 8, (h3 >>> 16).setWidth 8, (h3 >>> 8).setWidth 8, (h3 >>> 0).setWidth 8, (h4 >>> 24).setWidth 8, (h4 >>> 16).setWidth 8, (h4 >>> 8).setWidth 8, (h4 >>> 0).setWidth 8, (h5 >>> 24).setWidth 8, (h5 >>> 16).setWidth 8, (h5 >>> 8).setWidth 8, (h5 >>> 0).setWidth 8, (h6 >>> 24).setWidth 8, (h6 >>> 16).setWidth 8, 0, 0, 0, 0, 0, 0]) rfl u8_one ti5 rfl rfl hm209.h0 (by simp) (.inl (Nat.zero_le _))) ?_
         rintro _ w211 uq211
         have hm211 := hm209.upd0 uq211
         refine rw_nil (kBlk_normal ?_)
         refine CW.abs (fun g => g 0 = vb ∧ g 2 = (ptr b2 0) ∧ g 3 = sv43 ∧ g 4 = (u64 ((BitVec.ofInt 64 (l.length : Int)) * 8#64)) ∧ g 5 = (i64 (-1)) ∧ g 6 = (ptr b6 0) ∧ g 7 = (ptr b7 0) ∧ g 8 = (i64 ((64 * (M.length / 64) : Nat) : Int)) ∧ g 19 = (ptr b19 0) ∧ g 20 = (i64 25) ∧ g 30 = (bl ((((l ++ 128#8 :: List.replicate ((119 - l.length % 64) % 64) 0#8).length : Int) % 64) != 56)) ∧ g 39 = (bl false) ∧ g 55 = (bl (decide (((64 * (M.length / 64) : Nat) : Int) < (M.length : Int)))) ∧ g 233 = (bl true) ∧ True) ⟨s0, s2, s3, s4, s5, s6, s7, s8, s19, rfl, s30, s39, s55, rfl, trivial⟩ ?_
         rintro fr212 ⟨s0, s2, s3, s4, s5, s6, s7, s8, s19, s20, s30, s39, s55, s233, _⟩
         refine cw_region <| rM rfl s20 <| rw_q (v := (i64 26)) rfl (ev_i64_add (a := 25) (b := 1) rfl rfl oM oM) <| rw_q rfl (ev_assign (v := (i64 26)) rfl) ?_
         refine rN (cr_succ (cw_seq (sR ?_)))
         refine rw_q rfl (ev_move (v := (i64 26)) rfl) <| rw_q rfl (ev_i64_lss (a := 26) (b := 32) rfl rfl) ?_
         refine rN ?_
         refine cw_cond_t rfl (by decide) ?_
         refine cw_skip (kThen_normal (cw_seq (cw_block (cw_region ?_))))
         refine rw_q rfl (ev_move (v := (i64 26)) rfl) <| rw_q rfl (ev_move (v := (i64 26)) rfl) <| rw_q (v := (i64 6)) rfl (ev_i64_quo (a := 26) (b := 4) rfl rfl oM oM oM) <| rw_q rfl (ev_ia_arr (r := 6) (i := 6) oM uT94 ti55 s7 rfl oM oM) <| rw_q (v := (u32 h6)) rfl (ev_load1 uT55 rfl rfl hm211.h1 (get_clD _ _ 0 (by simp))) <| rw_q rfl (ev_move (v := (i64 26)) rfl) ?_
         refine rw_q (v := (i64 2)) rfl (ev_i64_rem (a := 26) (b := 4) rfl rfl oM oM oM) <| rw_q (v := (i64 16)) rfl (ev_i64_mul (a := 8) (b := 2) rfl rfl oM oM) <| rw_q (v := (i64 8)) rfl (ev_i64_sub (a := 24) (b := 16) rfl rfl oM oM) <| rw_q rfl (ev_u32_shr (b := 8) rfl rfl oM) <| rw_q rfl (ev_conv_u32_u8 ⟨_, uT55⟩ uT5 rfl) <| rw_q rfl (ev_ia_arr (r := 26) (i := 26) oM uT23 ti5 s19 rfl oM oM) ?_
         refine rw_n (or_store_cl' (f := u8) (l' := [(h0 >>> 24).setWidth 8, (h0 >>> 16).setWidth 8, (h0 >>> 8).setWidth 8, (h0 >>> 0).setWidth 8, (h1 >>> 24).setWidth 8, (h1 >>> 16).setWidth 8, (h1 >>> 8).setWidth 8, (h1 >>> 0).setWidth 8, (h2 >>> 24).setWidth 8, (h2 >>> 16).setWidth 8, (h2 >>> 8).setWidth 8, (h2 >>> 0).setWidth 8, (h3 >>> 24).setWidth 8, (h3 >>> 16).setWidth 8, (h3 >>> 8).setWidth 8, (h3 >>> 0).setWidth 8, (h4 >>> 24).setWidth 8, (h4 >>> 16).setWidth 8, (h4 >>> 8).setWidth 8, (h4 >>> 0).setWidth 8, (h5 >>> 24).setWidth 8, (h5 >>> 16).setWidth 8, (h5 >>> 8).setWidth 8, (h5 >>> 0).setWidth 8, (h6 >>> 24).setWidth 8, (h6 >>> 16).setWidth 8, (h6 >>> 8).setWidth 8, 0, 0, 0, 0, 0]) rfl u8_one ti5 rfl rfl hm211.h0 (by simp) (.inl (Nat.zero_le _))) ?_
         rintro _ w213 uq213
         have hm213 := hm211.upd0 uq213
         refine rw_nil (kBlk_normal ?_)
         refine CW.abs (fun g => g 0 = vb ∧ g 2 = (ptr b2 0) ∧ g 3 = sv43 ∧ g 4 = (u64 ((BitVec.ofInt 64 (l.length : Int)) * 8#64)) ∧ g 5 = (i64 (-1)) ∧ g 6 = (ptr b6 0) ∧ g 7 = (ptr b7 0) ∧ g 8 = (i64 ((64 * (M.length / 64) : Nat) : Int)) ∧ g 19 = (ptr b19 0) ∧ g 20 = (i64 26) ∧ g 30 = (bl ((((l ++ 128#8 :: List.replicate ((119 - l.length % 64) % 64) 0#8).length : Int) % 64) != 56)) ∧ g 39 = (bl false) ∧ g 55 = (bl (decide (((64 * (M.length / 64) : Nat) : Int) < (M.length : Int)))) ∧ g 233 = (bl true) ∧ True) ⟨s0, s2, s3, s4, s5, s6, s7, s8, s19, rfl, s30, s39, s55, rfl, trivial⟩ ?_
         rintro fr214 ⟨s0, s2, s3, s4, s5, s6, s7, s8, s19, s20, s30, s39, s55, s233, _⟩
         refine cw_region <| rM rfl s20 <| rw_q (v := (i64 27)) rfl (ev_i64_add (a := 26) (b := 1) rfl rfl oM oM) <| rw_q rfl (ev_assign (v := (i64 27)) rfl) ?_
         refine rN (cr_succ (cw_seq (sR ?_)))
         refine rw_q rfl (ev_move (v := (i64 27)) rfl) <| rw_q rfl (ev_i64_lss (a := 27) (b := 32) rfl rfl) ?_
         refine rN ?_
         refine cw_cond_t rfl (by decide) ?_
         refine cw_skip (kThen_normal (cw_seq (cw_block (cw_region ?_))))
         refine rw_q rfl (ev_move (v := (i64 27)) rfl) <| rw_q rfl (ev_move (v := (i64 27)) rfl) <| rw_q (v := (i64 6)) rfl (ev_i64_quo (a := 27) (b := 4) rfl rfl oM oM oM) <| rw_q rfl (ev_ia_arr (r := 6) (i := 6) oM uT94 ti55 s7 rfl oM oM) <| rw_q (v := (u32 h6)) rfl (ev_load1 uT55 rfl rfl hm213.h1 (get_clD _ _ 0 (by simp))) <| rw_q rfl (ev_move (v := (i64 27)) rfl) ?_
         refine rw_q (v := (i64 3)) rfl (ev_i64_rem (a := 27) (b := 4) rfl rfl oM oM oM) <| rw_q (v := (i64 24)) rfl (ev_i64_mul (a := 8) (b := 3) rfl rfl oM oM) <| rw_q (v := (i64 0)) rfl (ev_i64_sub (a := 24) (b := 24) rfl rfl oM oM) <| rw_q rfl (ev_u32_shr (b := 0) rfl rfl oM) <| rw_q rfl (ev_conv_u32_u8 ⟨_, uT55⟩ uT5 rfl) <| rw_q rfl (ev_ia_arr (r := 27) (i := 27) oM uT23 ti5 s19 rfl oM oM) ?_
         refine rw_n (or_store_cl' (f := u8) (l' := [(h0 >>> 24).setWidth 8, (h0 >>> 16).setWidth 8, (h0 >>> 8).setWidth 8, (h0 >>> 0).setWidth 8, (h1 >>> 24).setWidth 8, (h1 >>> 16).setWidth 8, (h1 >>> 8).setWidth 8, (h1 >>> 0).setWidth 8, (h2 >>> 24).setWidth 8, (h2 >>> 16).setWidth 8, (h2 >>> 8).setWidth 8, (h2 >>> 0).setWidth 8, (h3 >>> 24).setWidth 8, (h3 >>> 16).setWidth 8, (h3 >>> 8).setWidth 8, (h3 >>> 0).setWidth 8, (h4 >>> 24).setWidth 8, (h4 >>> 16).setWidth 8, (h4 >>> 8).setWidth 8, (h4 >>> 0).setWidth 8, (h5 >>> 24).setWidth 8, (h5 >>> 16).setWidth 8, (h5 >>> 8).setWidth 8, (h5 >>> 0).setWidth 8, (h6 >>> 24).setWidth 8, (h6 >>> 16).setWidth 8, (h6 >>> 8).setWidth 8, (h6 >>> 0).setWidth 8, 0, 0, 0, 0]) rfl u8_one ti5 rfl rfl hm213.h0 (by simp) (.inl (Nat.zero_le _))) ?_
         rintro _ w215 uq215
         have hm215 := hm213.upd0 uq215
         refine rw_nil (kBlk_normal ?_)
         refine CW.abs (fun g => g 0 = vb ∧ g 2 = (ptr b2 0) ∧ g 3 = sv43 ∧ g 4 = (u64 ((BitVec.ofInt 64 (l.length : Int)) * 8#64)) ∧ g 5 = (i64 (-1)) ∧ g 6 = (ptr b6 0) ∧ g 7 = (ptr b7 0) ∧ g 8 = (i64 ((64 * (M.length / 64) : Nat) : Int)) ∧ g 19 = (ptr b19 0) ∧ g 20 = (i64 27) ∧ g 30 = (bl ((((l ++ 128#8 :: List.replicate ((119 - l.length % 64) % 64) 0#8).length : Int) % 64) != 56)) ∧ g 39 = (bl false) ∧ g 55 = (bl (decide (((64 * (M.length / 64) : Nat) : Int) < (M.length : Int)))) ∧ g 233 = (bl true) ∧ True) ⟨s0, s2, s3, s4, s5, s6, s7, s8, s19, rfl, s30, s39, s55, rfl, trivial⟩ ?_
         rintro fr216 ⟨s0, s2, s3, s4, s5, s6, s7, s8, s19, s20, s30, s39, s55, s233, _⟩
         refine cw_region <| rM rfl s20 <| rw_q (v := (i64 28)) rfl (ev_i64_add (a := 27) (b := 1) rfl rfl oM oM) <| rw_q rfl (ev_assign (v := (i64 28)) rfl) ?_
         refine rN (cr_succ (cw_seq (sR ?_)))
         refine rw_q rfl (ev_move (v := (i64 28)) rfl) <| rw_q rfl (ev_i64_lss (a := 28) (b := 32) rfl rfl) ?_
         refine rN ?_
         refine cw_cond_t rfl (by decide) ?_
         refine cw_skip (kThen_normal (cw_seq (cw_block (cw_region ?_))))
         refine rw_q rfl (ev_move (v := (i64 28)) rfl) <| rw_q rfl (ev_move (v := (i64 28)) rfl) <| rw_q (v := (i64 7)) rfl (ev_i64_quo (a := 28) (b := 4) rfl rfl oM oM oM) <| rw_q rfl (ev_ia_arr (r := 7) (i := 7) oM uT94 ti55 s7 rfl oM oM) <| rw_q (v := (u32 h7)) rfl (ev_load1 uT55 rfl rfl hm215.h1 (get_clD _ _ 0 (by simp))) <| rw_q rfl (ev_move (v := (i64 28)) rfl) ?_
         refine rw_q (v := (i64 0)) rfl (ev_i64_rem (a := 28) (b := 4) rfl rfl oM oM oM) <| rw_q (v := (i64 0)) rfl (ev_i64_mul (a := 8) (b := 0) rfl rfl oM oM) <| rw_q (v := (i64 24)) rfl (ev_i64_sub (a := 24) (b := 0) rfl rfl oM oM) <| rw_q rfl (ev_u32_shr (b := 24) rfl rfl oM) <| rw_q rfl (ev_conv_u32_u8 ⟨_, uT55⟩ uT5 rfl) <| rw_q rfl (ev_ia_arr (r := 28) (i := 28) oM uT23 ti5 s19 rfl oM oM) ?_
         refine rw_n (or_store_cl' (f := u8) (l' := [(h0 >>> 24).setWidth 8, (h0 >>> 16).setWidth 8, (h0 >>> 8).setWidth 8, (h0 >>> 0).setWidth 8, (h1 >>> 24).setWidth 8, (h1 >>> 16).setWidth 8, (h1 >>> 8).setWidth 8, (h1 >>> 0).setWidth 8, (h2 >>> 24).setWidth 8, (h2 >>> 16).setWidth 8, (h2 >>> 8).setWidth 8, (h2 >>> 0).setWidth 8, (h3 >>> 24).setWidth 8, (h3 >>> 16).setWidth 8, (h3 >>> 8).setWidth 8, (h3 >>> 0).setWidth 8, (h4 >>> 24).setWidth 8, (h4 >>> 16).setWidth 8, (h4 >>> 8).setWidth 8, (h4 >>> 0).setWidth 8, (h5 >>> 24).setWidth 8, (h5 >>> 16).setWidth 8, (h5 >>> 8).setWidth 8, (h5 >>> 0).setWidth 8, (h6 >>> 24).setWidth 8, (h6 >>> 16).setWidth 8, (h6 >>> 8).setWidth 8, (h6 >>> 0).setWidth 8, (h7 >>> 24).setWidth 8, 0, 0, 0]) rfl u8_one ti5 rfl rfl hm215.h0 (by simp) (.inl (Nat.zero_le _))) ?_
         rintro _ w217 uq217
         have hm217 := hm215.upd0 uq217
         refine rw_nil (kBlk_normal ?_)
         refine CW.abs (fun g => g 0 = vb ∧ g 2 = (ptr b2 0) ∧ g 3 = sv43 ∧ g 4 = (u64 ((BitVec.ofInt 64 (l.length : Int)) * 8#64)) ∧ g 5 = (i64 (-1)) ∧ g 6 = (ptr b6 0) ∧ g 7 = (ptr b7 0) ∧ g 8 = (i64 ((64 * (M.length / 64) : Nat) : Int)) ∧ g 19 = (ptr b19 0) ∧ g 20 = (i64 28) ∧ g 30 = (bl ((((l ++ 128#8 :: List.replicate ((119 - l.length % 64) % 64) 0#8).length : Int) % 64) != 56)) ∧ g 39 = (bl false) ∧ g 55 = (bl (decide (((64 * (M.length / 64) : Nat) : Int) < (M.length : Int)))) ∧ g 233 = (bl true) ∧ True) ⟨s0, s2, s3, s4, s5, s6, s7, s8, s19, rfl, s30, s39, s55, rfl, trivial⟩ ?_
         rintro fr218 ⟨s0, s2, s3, s4, s5, s6, s7, s8, s19, s20, s30, s39, s55, s233, _⟩
         refine cw_region <| rM rfl s20 <| rw_q (v := (i64 29)) rfl (ev_i64_add (a := 28) (b := 1) rfl rfl oM oM) <| rw_q rfl (ev_assign (v := (i64 29)) rfl) ?_
         refine rN (cr_succ (cw_seq (sR ?_)))
         refine rw_q rfl (ev_move (v := (i64 29)) rfl) <| rw_q rfl (ev_i64_lss (a := 29) (b := 32) rfl rfl) ?_
         refine rN ?_
         refine cw_cond_t rfl (by decide) ?_
         refine cw_skip (kThen_normal (cw_seq (cw_block (cw_region ?_))))
         refine rw_q rfl (ev_move (v := (i64 29)) rfl) <| rw_q rfl (ev_move (v := (i64 29)) rfl) <| rw_q (v := (i64 7)) rfl (ev_i64_quo (a := 29) (b := 4) rfl rfl oM oM oM) <| rw_q rfl (ev_ia_arr (r := 7) (i := 7) oM uT94 ti55 s7 rfl oM oM) <| rw_q (v := (u32 h7)) rfl (ev_load1 uT55 rfl rfl hm217.h1 (get_clD _ _ 0 (by simp))) <| rw_q rfl (ev_move (v := (i64 29)) rfl) ?_
         refine rw_q (v := (i64 1)) rfl (ev_i64_rem (a := 29) (b := 4) rfl rfl oM oM oM) <| rw_q (v := (i64 8)) rfl (ev_i64_mul (a := 8) (b := 1) rfl rfl oM oM) <| rw_q (v := (i64 16)) rfl (ev_i64_sub (a := 24) (b := 8) rfl rfl oM oM) <| rw_q rfl (ev_u32_shr (b := 16) rfl rfl oM) <| rw_q rfl (ev_conv_u32_u8 ⟨_, uT55⟩ uT5 rfl) <| rw_q rfl (ev_ia_arr (r := 29) (i := 29) oM uT23 ti5 s19 rfl oM oM) ?_
         refine rw_n (or_store_cl' (f := u8) (l' := [(h0 >>> 24).setWidth 8, (h0 >>> 16).setWidth 8, (h0 >>> 8).setWidth 8, (h0 >>> 0).setWidth 8, (h1 >>> 24).setWidth 8, (h1 >>> 16).setWidth 8, (h1 >>> 8).setWidth 8, (h1 >>> 0).setWidth 8, (h2 >>> 24).setWidth 8, (h2 >>> 16).setWidth 8, (h2 >>> 8).setWidth 8, (h2 >>> 0).setWidth 8, (h3 >>> 24).setWidth 8, (h3 >>> 16).setWidth 8, (h3 >>> 8).setWidth 8, (h3 >>> 0).setWidth 8, (h4 >>> 24).setWidth 8, (h4 >>> 16).setWidth 8, (h4 >>> 8).setWidth 8, (h4 >>> 0).setWidth 8, (h5 >>> 24).setWidth 8, (h5 >>> 16).setWidth 8, (h5 >>> 8).setWidth 8, (h5 >>> 0).setWidth 8, (h6 >>> 24).setWidth 8, (h6 >>> 16).setWidth 8, (h6 >>> 8).setWidth 8, (h6 >>> 0).setWidth 8, (h7 >>> 24).setWidth 8, (h7 >>> 16).setWidth 8, 0, 0]) rfl u8_one ti5 rfl rfl hm217.h0 (by simp) (.inl (Nat.zero_le _))) ?_
         rintro _ w219 uq219
         have hm219 := hm217.upd0 uq219
         refine rw_nil (kBlk_normal ?_)
         refine CW.abs (fun g => g 0 = vb ∧ g 2 = (ptr b2 0) ∧ g 3 = sv43 ∧ g 4 = (u64 ((BitVec.ofInt 64 (l.length : Int)) * 8#64)) ∧ g 5 = (i64 (-1)) ∧ g 6 = (ptr b6 0) ∧ g 7 = (ptr b7 0) ∧ g 8 = (i64 ((64 * (M.length / 64) : Nat) : Int)) ∧ g 19 = (ptr b19 0) ∧ g 20 = (i64 29) ∧ g 30 = (bl ((((l ++ 128#8 :: List.replicate ((119 - l.length % 64) % 64) 0#8).length : Int) % 64) != 56)) ∧ g 39 = (bl false) ∧ g 55 = (bl (decide (((64 * (M.length / 64) : Nat) : Int) < (M.length : Int)))) ∧ g 233 = (bl true) ∧ True) ⟨s0, s2, s3, s4, s5, s6, s7, s8, s19, rfl, s30, s39, s55, rfl, trivial⟩ ?_
         rintro fr220 ⟨s0, s2, s3, s4, s5, s6, s7, s8, s19, s20, s30, s39, s55, s233, _⟩
         refine cw_region <| rM rfl s20 <| rw_q (v := (i64 30)) rfl (ev_i64_add (a := 29) (b := 1) rfl rfl oM oM) <| rw_q rfl (ev_assign (v := (i64 30)) rfl) ?_
         refine rN (cr_succ (cw_seq (sR ?_)))
         refine rw_q rfl (ev_move (v := (i64 30)) rfl) <| rw_q rfl (ev_i64_lss (a := 30) (b := 32) rfl rfl) ?_
         refine rN ?_
         refine cw_cond_t rfl (by decide) ?_
         refine cw_skip (kThen_normal (cw_seq (cw_block (cw_region ?_))))
         refine rw_q rfl (ev_move (v := (i64 30)) rfl) <| rw_q rfl (ev_move (v := (i64 30)) rfl) <| rw_q (v := (i64 7)) rfl (ev_i64_quo (a := 30) (b := 4) rfl rfl oM oM oM) <| rw_q rfl (ev_ia_arr (r := 7) (i := 7) oM uT94 ti55 s7 rfl oM oM) <| rw_q (v := (u32 h7)) rfl (ev_load1 uT55 rfl rfl hm219.h1 (get_clD _ _ 0 (by simp))) <| rw_q rfl (ev_move (v := (i64 30)) rfl) ?_
         refine rw_q (v := (i64 2)) rfl (ev_i64_rem (a := 30) (b := 4) rfl rfl oM oM oM) <| rw_q (v := (i64 16)) rfl (ev_i64_mul (a := 8) (b := 2) rfl rfl oM oM) <| rw_q (v := (i64 8)) rfl (ev_i64_sub (a := 24) (b := 16) rfl rfl oM oM) <| rw_q rfl (ev_u32_shr (b := 8) rfl rfl oM) <| rw_q rfl (ev_conv_u32_u8 ⟨_, uT55⟩ uT5 rfl) <| rw_q rfl (ev_ia_arr (r := 30) (i := 30) oM uT23 ti5 s19 rfl oM oM) ?_
         refine rw_n (or_store_cl' (f := u8) (l' := [(h0 >>> 24).setWidth 8, (h0 >>> 16).setWidth 8, (h0 >>> 8).setWidth 8, (h0 >>> 0).setWidth 8, (h1 >>> 24).setWidth 8, (h1 >>> 16).setWidth 8, (h1 >>> 8).setWidth 8, (h1 >>> 0).setWidth 8, (h2 >>> 24).setWidth 8, (h2 >>> 16).setWidth 8, (h2 >>> 8).setWidth 8, (h2 >>> 0).setWidth 8, (h3 >>> 24).setWidth 8, (h3 >>> 16).setWidth 8, (h3 >>> 8).setWidth 8, (h3 >>> 0).setWidth 8, (h4 >>> 24).setWidth 8, (h4 >>> 16).setWidth 8, (h4 >>> 8).setWidth 8, (h4 >>> 0).setWidth 8, (h5 >>> 24).setWidth 8, (h5 >>> 16).setWidth 8, (h5 >>> 8).setWidth 8, (h5 >>> 0).setWidth 8, (h6 >>> 24).setWidth 8, (h6 >>> 16).setWidth 8, (h6 >>> 8).setWidth 8, (h6 >>> 0).setWidth 8, (h7 >>> 24).setWidth 8, (h7 >>> 16).setWidth 8, (h7 >>> 8).setWidth 8, 0]) rfl u8_one ti5 rfl rfl hm219.h0 (by simp) (.inl (Nat.zero_le _))) ?_
         rintro _ w221 uq221
         have hm221 := hm219.upd0 uq221
         refine rw_nil (kBlk_normal ?_)
         refine CW.abs (fun g => g 0 = vb ∧ g 2 = (ptr b2 0) ∧ g 3 = sv43 ∧ g 4 = (u64 ((BitVec.ofInt 64 (l.length : Int)) * 8#64)) ∧ g 5 = (i64 (-1)) ∧ g 6 = (ptr b6 0) ∧ g 7 = (ptr b7 0) ∧ g 8 = (i64 ((64 * (M.length / 64) : Nat) : Int)) ∧ g 19 = (ptr b19 0) ∧ g 20 = (i64 30) ∧ g 30 = (bl ((((l ++ 128#8 :: List.replicate ((119 - l.length % 64) % 64) 0#8).length : Int) % 64) != 56)) ∧ g 39 = (bl false) ∧ g 55 = (bl (decide (((64 * (M.length / 64) : Nat) : Int) < (M.length : Int)))) ∧ g 233 = (bl true) ∧ True) ⟨s0, s2, s3, s4, s5, s6, s7, s8, s19, rfl, s30, s39, s55, rfl, trivial⟩ ?_
         rintro fr222 ⟨s0, s2, s3, s4, s5, s6, s7, s8, s19, s20, s30, s39, s55, s233, _⟩
         refine cw_region <| rM rfl s20 <| rw_q (v := (i64 31)) rfl (ev_i64_add (a := 30) (b := 1) rfl rfl oM oM) <| rw_q rfl (ev_assign (v := (i64 31)) rfl) ?_
         refine rN (cr_succ (cw_seq (sR ?_)))
         refine rw_q rfl (ev_move (v := (i64 31)) rfl) <| rw_q rfl (ev_i64_lss (a := 31) (b := 32) rfl rfl) ?_
         refine rN ?_
         refine cw_cond_t rfl (by decide) ?_
         refine cw_skip (kThen_normal (cw_seq (cw_block (cw_region ?_))))
         refine rw_q rfl (ev_move (v := (i64 31)) rfl) <| rw_q rfl (ev_move (v := (i64 31)) rfl) <| rw_q (v := (i64 7)) rfl (ev_i64_quo (a := 31) (b := 4) rfl rfl oM oM oM) <| rw_q rfl (ev_ia_arr (r := 7) (i := 7) oM uT94 ti55 s7 rfl oM oM) <| rw_q (v := (u32 h7)) rfl (ev_load1 uT55 rfl rfl hm221.h1 (get_clD _ _ 0 (by simp))) <| rw_q rfl (ev_move (v := (i64 31)) rfl) ?_
         refine rw_q (v := (i64 3)) rfl (ev_i64_rem (a := 31) (b := 4) rfl rfl oM oM oM) <| rw_q (v := (i64 24)) rfl (ev_i64_mul (a := 8) (b := 3) rfl rfl oM oM) <| rw_q (v := (i64 0)) rfl (ev_i64_sub (a := 24) (b := 24) rfl rfl oM oM) <| rw_q rfl (ev_u32_shr (b := 0) rfl rfl oM) <| rw_q rfl (ev_conv_u32_u8 ⟨_, uT55⟩ uT5 rfl) <| rw_q rfl (ev_ia_arr (r := 31) (i := 31) oM uT23 ti5 s19 rfl oM oM) ?_
         refine rw_n (or_store_cl' (f := u8) (l' := [(h0 >>> 24).setWidth 8, (h0 >>> 16).setWidth 8, (h0 >>> 8).setWidth 8, (h0 >>> 0).setWidth 8, (h1 >>> 24).setWidth 8, (h1 >>> 16).setWidth 8, (h1 >>> 8).setWidth 8, (h1 >>> 0).setWidth 8, (h2 >>> 24).setWidth 8, (h2 >>> 16).setWidth 8, (h2 >>> 8).setWidth 8, (h2 >>> 0).setWidth 8, (h3 >>> 24).setWidth 8, (h3 >>> 16).setWidth 8, (h3 >>> 8).setWidth 8, (h3 >>> 0).setWidth 8, (h4 >>> 24).setWidth 8, (h4 >>> 16).setWidth 8, (h4 >>> 8).setWidth 8, (h4 >>> 0).setWidth 8, (h5 >>> 24).setWidth 8, (h5 >>> 16).setWidth 8, (h5 >>> 8).setWidth 8, (h5 >>> 0).setWidth 8, (h6 >>> 24).setWidth 8, (h6 >>> 16).setWidth 8, (h6 >>> 8).setWidth 8, (h6 >>> 0).setWidth 8, (h7 >>> 24).setWidth 8, (h7 >>> 16).setWidth 8, (h7 >>> 8).setWidth 8, (h7 >>> 0).setWidth 8]) rfl u8_one ti5 rfl rfl hm221.h0 (by simp) (.inl (Nat.zero_le _))) ?_
         rintro _ w223 uq223
         have hm223 := hm221.upd0 uq223
         refine rw_nil (kBlk_normal ?_)
         refine CW.abs (fun g => g 0 = vb ∧ g 2 = (ptr b2 0) ∧ g 3 = sv43 ∧ g 4 = (u64 ((BitVec.ofInt 64 (l.length : Int)) * 8#64)) ∧ g 5 = (i64 (-1)) ∧ g 6 = (ptr b6 0) ∧ g 7 = (ptr b7 0) ∧ g 8 = (i64 ((64 * (M.length / 64) : Nat) : Int)) ∧ g 19 = (ptr b19 0) ∧ g 20 = (i64 31) ∧ g 30 = (bl ((((l ++ 128#8 :: List.replicate ((119 - l.length % 64) % 64) 0#8).length : Int) % 64) != 56)) ∧ g 39 = (bl false) ∧ g 55 = (bl (decide (((64 * (M.length / 64) : Nat) : Int) < (M.length : Int)))) ∧ g 233 = (bl true) ∧ True) ⟨s0, s2, s3, s4, s5, s6, s7, s8, s19, rfl, s30, s39, s55, rfl, trivial⟩ ?_
         rintro fr224 ⟨s0, s2, s3, s4, s5, s6, s7, s8, s19, s20, s30, s39, s55, s233, _⟩
         refine cw_region <| rM rfl s20 <| rw_q (v := (i64 32)) rfl (ev_i64_add (a := 31) (b := 1) rfl rfl oM oM) <| rw_q rfl (ev_assign (v := (i64 32)) rfl) ?_
         refine rN (cr_succ (cw_seq (sR ?_)))
         refine rw_q rfl (ev_move (v := (i64 32)) rfl) <| rw_q rfl (ev_i64_lss (a := 32) (b := 32) rfl rfl) ?_
         refine rN ?_
         refine cw_cond_f rfl (by decide) <| cw_exit ?_
         refine kThen_exit (kThen_exit (kBlk_hit ?_))
         refine sR ?_
         refine rw_q rfl (ev_loadA uT23 rfl ti23 s19 hm223.h0 sZ) <| rw_n (or_store_agg (f := u8) (l := [(h0 >>> 24).setWidth 8, (h0 >>> 16).setWidth 8, (h0 >>> 8).setWidth 8, (h0 >>> 0).setWidth 8, (h1 >>> 24).setWidth 8, (h1 >>> 16).setWidth 8, (h1 >>> 8).setWidth 8, (h1 >>> 0).setWidth 8, (h2 >>> 24).setWidth 8, (h2 >>> 16).setWidth 8, (h2 >>> 8).setWidth 8, (h2 >>> 0).setWidth 8, (h3 >>> 24).setWidth 8, (h3 >>> 16).setWidth 8, (h3 >>> 8).setWidth 8, (h3 >>> 0).setWidth 8, (h4 >>> 24).setWidth 8, (h4 >>> 16).setWidth 8, (h4 >>> 8).setWidth 8, (h4 >>> 0).setWidth 8, (h5 >>> 24).setWidth 8, (h5 >>> 16).setWidth 8, (h5 >>> 8).setWidth 8, (h5 >>> 0).setWidth 8, (h6 >>> 24).setWidth 8, (h6 >>> 16).setWidth 8, (h6 >>> 8).setWidth 8, (h6 >>> 0).setWidth 8, (h7 >>> 24).setWidth 8, (h7 >>> 16).setWidth 8, (h7 >>> 8).setWidth 8, (h7 >>> 0).setWidth 8]) u8_one ti23 s2 rfl sD ((Mem.pick2 [_, _, _] Hs43 [_] _ hm223)).h0 sZ rfl) ?_
         rintro _ w225 uq225
         have hm225 : Mem w225 (restOf w0) ([(b2, .cells (cl u8 ([(h0 >>> 24).setWidth 8, (h0 >>> 16).setWidth 8, (h0 >>> 8).setWidth 8, (h0 >>> 0).setWidth 8, (h1 >>> 24).setWidth 8, (h1 >>> 16).setWidth 8, (h1 >>> 8).setWidth 8, (h1 >>> 0).setWidth 8, (h2 >>> 24).setWidth 8, (h2 >>> 16).setWidth 8, (h2 >>> 8).setWidth 8, (h2 >>> 0).setWidth 8, (h3 >>> 24).setWidth 8, (h3 >>> 16).setWidth 8, (h3 >>> 8).setWidth 8, (h3 >>> 0).setWidth 8, (h4 >>> 24).setWidth 8, (h4 >>> 16).setWidth 8, (h4 >>> 8).setWidth 8, (h4 >>> 0).setWidth 8, (h5 >>> 24).setWidth 8, (h5 >>> 16).setWidth 8, (h5 >>> 8).setWidth 8, (h5 >>> 0).setWidth 8, (h6 >>> 24).setWidth 8, (h6 >>> 16).setWidth 8, (h6 >>> 8).setWidth 8, (h6 >>> 0).setWidth 8, (h7 >>> 24).setWidth 8, (h7 >>> 16).setWidth 8, (h7 >>> 8).setWidth 8, (h7 >>> 0).setWidth 8])) 23 (0, 0)), (b19, .cells (cl u8 ([(h0 >>> 24).setWidth 8, (h0 >>> 16).setWidth 8, (h0 >>> 8).setWidth 8, (h0 >>> 0).setWidth 8, (h1 >>> 24).setWidth 8, (h1 >>> 16).setWidth 8, (h1 >>> 8).setWidth 8, (h1 >>> 0).setWidth 8, (h2 >>> 24).setWidth 8, (h2 >>> 16).setWidth 8, (h2 >>> 8).setWidth 8, (h2 >>> 0).setWidth 8, (h3 >>> 24).setWidth 8, (h3 >>> 16).setWidth 8, (h3 >>> 8).setWidth 8, (h3 >>> 0).setWidth 8, (h4 >>> 24).setWidth 8, (h4 >>> 16).setWidth 8, (h4 >>> 8).setWidth 8, (h4 >>> 0).setWidth 8, (h5 >>> 24).setWidth 8, (h5 >>> 16).setWidth 8, (h5 >>> 8).setWidth 8, (h5 >>> 0).setWidth 8, (h6 >>> 24).setWidth 8, (h6 >>> 16).setWidth 8, (h6 >>> 8).setWidth 8, (h6 >>> 0).setWidth 8, (h7 >>> 24).setWidth 8, (h7 >>> 16).setWidth 8, (h7 >>> 8).setWidth 8, (h7 >>> 0).setWidth 8])) 23 (0, 0)), (b7, .cells (cl u32 ([h0, h1, h2, h3, h4, h5, h6, h7])) 94 (0, 0)), (b6, .cells (cl u32 roundL) 98 (0, 0))] ++ (Hs43 ++ ([]))) := Mem.upd0 (Mem.pick2 [_, _, _] Hs43 [_] _ hm223) uq225
         refine rN (cw_ret ?_)
         refine fnPost_ret [(agg u8 ([(h0 >>> 24).setWidth 8, (h0 >>> 16).setWidth 8, (h0 >>> 8).setWidth 8, (h0 >>> 0).setWidth 8, (h1 >>> 24).setWidth 8, (h1 >>> 16).setWidth 8, (h1 >>> 8).setWidth 8, (h1 >>> 0).setWidth 8, (h2 >>> 24).setWidth 8, (h2 >>> 16).setWidth 8, (h2 >>> 8).setWidth 8, (h2 >>> 0).setWidth 8, (h3 >>> 24).setWidth 8, (h3 >>> 16).setWidth 8, (h3 >>> 8).setWidth 8, (h3 >>> 0).setWidth 8, (h4 >>> 24).setWidth 8, (h4 >>> 16).setWidth 8, (h4 >>> 8).setWidth 8, (h4 >>> 0).setWidth 8, (h5 >>> 24).setWidth 8, (h5 >>> 16).setWidth 8, (h5 >>> 8).setWidth 8, (h5 >>> 0).setWidth 8, (h6 >>> 24).setWidth 8, (h6 >>> 16).setWidth 8, (h6 >>> 8).setWidth 8, (h6 >>> 0).setWidth 8, (h7 >>> 24).setWidth 8, (h7 >>> 16).setWidth 8, (h7 >>> 8).setWidth 8, (h7 >>> 0).setWidth 8]))] ⟨⟨_, s2, loadVar_run uT23 rfl ti23 hm225.h0 sZ⟩, trivial⟩ ?_
         exact ⟨congrArg (agg u8) ((bytesOf_lit h0 h1 h2 h3 h4 h5 h6 h7).trans (by rw [hh, hMM, pad_same]; exact (sum_flat l).symm)), hm225.toExt⟩


end Go.Proofs.YtmiagmbgfhakgaaDoor

