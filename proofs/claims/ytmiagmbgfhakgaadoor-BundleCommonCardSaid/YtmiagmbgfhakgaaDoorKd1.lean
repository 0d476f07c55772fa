/- Contracts: kdf, first part. Conditions: none beyond those that each theorem states. -/
import Derived.Test.YtmiagmbgfhakgaaDoorFwO
import Derived.Test.YtmiagmbgfhakgaaDoorHa7
namespace Go.Proofs.YtmiagmbgfhakgaaDoor
set_option linter.unusedVariables false
set_option linter.unusedSimpArgs false

def tK (key info : List (BitVec 8)) : Nat → List (BitVec 8)
  | 0 => []
  | i + 1 => hmacP key (tK key info i ++ info ++ [BitVec.ofNat 8 (i + 1)])
theorem tK_zero (key info : List (BitVec 8)) : tK key info 0 = [] := rfl
theorem tK_succ (key info : List (BitVec 8)) (i : Nat) : tK key info (i + 1) = hmacP key (tK key info i ++ info ++ [BitVec.ofNat 8 (i + 1)]) := rfl
theorem tK_le (key info : List (BitVec 8)) (i : Nat) : (tK key info i).length ≤ 32 := by
  cases i with
  | zero => simp [tK]
  | succ i => rw [tK_succ, hmacP_length]; omega
theorem tK_len (key info : List (BitVec 8)) (i : Nat) : (tK key info (i + 1)).length = 32 := by rw [tK_succ, hmacP_length]
def outK (key info : List (BitVec 8)) : Nat → List (BitVec 8)
  | 0 => []
  | i + 1 => outK key info i ++ tK key info (i + 1)
theorem outK_zero (key info : List (BitVec 8)) : outK key info 0 = [] := rfl
theorem outK_succ (key info : List (BitVec 8)) (i : Nat) : outK key info (i + 1) = outK key info i ++ tK key info (i + 1) := rfl
theorem outK_len (key info : List (BitVec 8)) (i : Nat) : (outK key info i).length = 32 * i := by
  induction i with
  | zero => rfl
  | succ i ih => rw [outK_succ, List.length_append, ih, tK_len]; omega
def expandP (key info : List (BitVec 8)) (n : Nat) : List (BitVec 8) := (outK key info ((n + 31) / 32)).take n
@[simp] theorem expandP_length (key info : List (BitVec 8)) (n : Nat) : (expandP key info n).length = n := by unfold expandP; rw [List.length_take, outK_len]; omega
def badN (n : Int) : Bool := decide (n < 0) || decide (8160 < n)
def errP (n : Int) : Int := if badN n then 2 else 0
def expandQ (key info : List (BitVec 8)) (n : Int) : List (BitVec 8) := if badN n then [] else expandP key info n.toNat
theorem joinL_three (a b c : Value) (x y z : List (BitVec 8)) : joinL [(a, x), (b, y), (c, z)] = x ++ y ++ z := by simp [joinL]
theorem byte_succ (k : Nat) : BitVec.ofNat 8 (k + 1) + 1#8 = BitVec.ofNat 8 (k + 1 + 1) := by simp [BitVec.ofNat_add]
def saltP (salt : List (BitVec 8)) : List (BitVec 8) := if salt.length = 0 then List.replicate 32 0 else salt
def extractP (salt secret : List (BitVec 8)) : List (BitVec 8) := hmacP (saltP salt) secret
@[simp] theorem extractP_length (salt secret : List (BitVec 8)) : (extractP salt secret).length = 32 := hmacP_length _ _
attribute [local irreducible] hmacP tK outK
set_option maxHeartbeats 1000000 in
theorem c_expand (key : List (BitVec 8)) (vi : Value) (info : List (BitVec 8)) (n : Int) (w0 : World)  (hT : Tabs (blks w0)) (hk : key.length = 32) (hri : Rd (blks w0) u8 vi info) (hli : info.length ≤ 1048576) : CallsR Tryd.prog 59 #[(agg u8 key), vi, (i64 n)] w0 (fun r w1 => ∃ v Hs, r = Value.tuple #[v, i64 (errP n)] ∧ Grow u8 5 v (expandQ key info n) Hs ∧ Mem w1 (restOf w0) Hs) := by
 refine callsR_of_cw (args := [(agg u8 key), vi, (i64 n)]) Tryd.func59 rfl Tryd.ntmps59 Tryd.results59 rfl ?_
 have hm0 : Mem w0 (restOf w0) [] := Mem.of_world w0
 refine sR <| rw_c rfl (or_box_agg (f := u8) (l := key) hm0 rfl) ?_
 rintro _ w1 ⟨b3, rfl, _ew1, hm1⟩
 refine rw_q rfl (ev_assign (v := (Value.slice none 0 0)) rfl) <| rw_q rfl (ev_assign (v := (i64 0)) rfl) ?_
 refine rN (cw_seq (sR ?_))
 refine rw_q rfl (ev_move (v := (i64 n)) rfl) <| rw_q rfl (ev_i64_lss (b := 0) rfl rfl) <| rw_q rfl (ev_move (v := (bl (decide (n < 0)))) rfl) ?_
 rcases Bool.eq_false_or_eq_true (decide (n < 0)) with hb2 | hb2
 · -- true
   have hb2p := of_decide_eq_true hb2
   refine rw_gn (s := 14) rfl rfl hb2 rfl <| rw_gn (s := 14) rfl rfl hb2 rfl <| rw_q rfl (ev_pick_tk rfl hb2 rfl) <| rN <| cw_cond_t rfl (by decide) <| sR ?_
   refine rw_q rfl (ev_assign (v := (Value.slice none 0 0)) rfl) <| rw_q rfl (ev_assign (v := (i64 2)) rfl) <| rN ?_
   refine CW.abs (fun g => g 0 = (agg u8 key) ∧ g 1 = vi ∧ g 2 = (i64 n) ∧ g 3 = (ptr b3 0) ∧ g 6 = (Value.slice none 0 0) ∧ g 7 = (i64 2) ∧ g 17 = (bl true) ∧ True) ⟨rfl, rfl, rfl, rfl, rfl, rfl, rfl, trivial⟩ ?_
   rintro fr3 ⟨s0, s1, s2, s3, s6, s7, s17, _⟩
   refine cw_ret (kThen_ret ?_)
   refine fnPost_ret [(Value.slice none 0 0), (i64 2)] ⟨s6, s7, trivial⟩ ?_
   have hbad : badN n = true := by simp [badN]; omega
   have hm4 := Mem.drop ([(b3, .cells (cl u8 key) 23 (0, 0))]) _ hm1
   exact ⟨Value.slice none 0 0, [], by unfold errP; rw [if_pos hbad]; rfl, by unfold expandQ; rw [if_pos hbad]; exact Grow.none _ _, hm4⟩
 · -- false
   have hb2p := of_decide_eq_false hb2
   refine rw_gyq (s := 14) rfl rfl hb2 rfl (ev_move (v := (i64 n)) rfl) <| rw_gyq (s := 14) rfl rfl hb2 rfl (ev_i64_gtr (b := 8160) rfl rfl) <| rw_q rfl (ev_pick_fk rfl hb2 rfl) <| rN ?_
   refine cw_cond rfl (fun hc5 => ?_) (fun hc5 => ?_)
   · -- true
     have hc5p := of_decide_eq_true hc5
     refine sR <| rw_q rfl (ev_assign (v := (Value.slice none 0 0)) rfl) <| rw_q rfl (ev_assign (v := (i64 2)) rfl) <| rN ?_
     refine CW.abs (fun g => g 0 = (agg u8 key) ∧ g 1 = vi ∧ g 2 = (i64 n) ∧ g 3 = (ptr b3 0) ∧ g 6 = (Value.slice none 0 0) ∧ g 7 = (i64 2) ∧ g 17 = (bl (decide (8160 < n))) ∧ True) ⟨rfl, rfl, rfl, rfl, rfl, rfl, rfl, trivial⟩ ?_
     rintro fr6 ⟨s0, s1, s2, s3, s6, s7, s17, _⟩
     refine cw_ret (kThen_ret ?_)
     refine fnPost_ret [(Value.slice none 0 0), (i64 2)] ⟨s6, s7, trivial⟩ ?_
     have hbad : badN n = true := by simp [badN]; omega
     have hm7 := Mem.drop ([(b3, .cells (cl u8 key) 23 (0, 0))]) _ hm1
     exact ⟨Value.slice none 0 0, [], by unfold errP; rw [if_pos hbad]; rfl, by unfold expandQ; rw [if_pos hbad]; exact Grow.none _ _, hm7⟩
   · -- false
     have hc5p := of_decide_eq_false hc5
     refine cw_skip (kThen_normal (sR ?_))
     refine rw_q rfl (ev_move (v := (i64 n)) rfl) <| rw_q rfl (ev_i64_add (b := 32) rfl rfl oM oM) <| rw_c rfl (or_makeSlice hm1 uT26 ti5 rfl rfl oM oM oM oM) ?_
     rintro _ w8 ⟨b20, rfl, _ew8, hm8⟩
     rw [rep_cells u8 0 rfl] at hm8
     obtain ⟨Hs8, hm8, g8⟩ : ∃ Hs, Mem w8 (restOf w0) (Hs ++ [(b3, .cells (cl u8 key) 23 (0, 0))]) ∧ Grow u8 5 (slc b20 0 0 ((n + 32 : Int).toNat)) [] Hs := ⟨_, hm8, Grow.made0 u8 5 b20 (0 : BitVec 8) ((n + 32 : Int).toNat)⟩
     refine rw_q rfl (ev_assign (v := (slc b20 0 0 ((n + 32 : Int).toNat))) rfl) <| rN ?_
     refine CW.abs (fun g => g 0 = (agg u8 key) ∧ g 1 = vi ∧ g 2 = (i64 n) ∧ g 3 = (ptr b3 0) ∧ g 6 = (Value.slice none 0 0) ∧ g 7 = (i64 0) ∧ g 8 = (slc b20 0 0 ((n + 32 : Int).toNat)) ∧ g 17 = (bl (decide (8160 < n))) ∧ True) ⟨rfl, rfl, rfl, rfl, rfl, rfl, rfl, rfl, trivial⟩ ?_
     rintro fr9 ⟨s0, s1, s2, s3, s6, s7, s8, s17, _⟩
     refine sR <| rw_q rfl (ev_assign (v := (Value.slice none 0 0)) rfl) ?_
     refine rN (cw_seq (sR ?_))
     refine rw_q rfl (ev_assign (v := (u8 1#8)) rfl) ?_
     refine rN (cw_block ?_)
     refine cw_loop (fun g wv => ∃ (k : Nat) (ol : List (BitVec 8)) (so : Value) (Ho : List (Nat × Obj)) (vl : Value) (Hl : List (Nat × Obj)), (k = 0 ∨ 32 * ((k : Int) - 1) < n) ∧ (ol = outK key info k) ∧ (Grow u8 5 so ol Ho) ∧ (Grow u8 23 vl (tK key info k) Hl) ∧ g 0 = (agg u8 key) ∧ g 1 = vi ∧ g 2 = (i64 n) ∧ g 3 = (ptr b3 0) ∧ g 6 = (Value.slice none 0 0) ∧ g 7 = (i64 0) ∧ g 8 = so ∧ g 9 = vl ∧ g 10 = (u8 (BitVec.ofNat 8 (k + 1))) ∧ g 17 = (bl (decide (8160 < n))) ∧ Mem wv (restOf w0) (Ho ++ (Hl ++ ([(b3, .cells (cl u8 key) 23 (0, 0))])))) (fun g wv => n.toNat + 1 - sllen (g 8)) ?_ ?_
     · exact ⟨0, [], (slc b20 0 0 ((n + 32 : Int).toNat)), Hs8, (Value.slice none 0 0), [], (.inl rfl), (outK_zero _ _).symm, g8, ((tK_zero key info).symm ▸ Grow.none u8 23), s0, s1, s2, s3, s6, s7, s8, rfl, rfl, s17, hm8⟩
     · rintro fr10 w11 ⟨k, ol, so, Ho, vl, Hl, hk0, hol, goo, gvl, s0, s1, s2, s3, s6, s7, s8, s9, s10, s17, hm11⟩
       have z8 := s8
       have z9 := s9
       have z10 := s10
       have holn : ol.length = 32 * k := by rw [hol, outK_len]
       have htl := tK_le key info k
       refine cw_seq (sR ?_)
       refine rM rfl s8 <| rw_q (v := (i64 (ol.length : Int))) rfl (ev_len_rd (goo.rd hm11) uT26 rfl) <| rM rfl s2 <| rw_q rfl (ev_i64_lss rfl rfl) <| rN ?_
       refine cw_cond rfl (fun hc12 => ?_) (fun hc12 => ?_)
       · -- true
         have hc12p := of_decide_eq_true hc12
         refine cw_skip (kThen_normal (cw_seq (cw_block (sR ?_))))
         refine rw_q rfl (ev_slice_sla (i := 0) (j := 32) uT23 ti5 s3 (optI_none _ _) (optI_none _ _) oM sD sD) <| rM rfl s9 <| rM rfl s1 <| rM rfl s10 <| rw_c rfl (or_buildSlice_cl u8 [BitVec.ofNat 8 (k + 1)] u8_one hm11 uT26 ti5 rfl rfl rfl) ?_
         rintro _ w13 ⟨b31, rfl, _ew13, hm13⟩
         refine rw_c rfl (or_buildSlice_ones [vl, vi, (slc b31 0 1 1)] (List.all_eq_true.1 (one_cons gvl.one (one_cons (Rd.one (Rd.ofRest hri hm13)) (one_cons rfl one_nil)))) hm13 uT71 ti26 rfl rfl rfl) ?_
         rintro _ w14 ⟨b32, rfl, _ew14, hm14⟩
         have hm14 : Mem w14 (restOf w0) ([(b32, .cells #[vl, vi, (slc b31 0 1 1)] 26 (0, 0)), (b31, .cells (cl u8 ([BitVec.ofNat 8 (k + 1)])) 5 (0, 0))] ++ (Ho ++ (Hl ++ ([(b3, .cells (cl u8 key) 23 (0, 0))])))) := hm14
         refine rw_c rfl (opR_call Tryd.func28 bd28 nm28 (args2 rfl rfl) (c_hmac (sla b3 0 1 0 32 32) key (slc b32 0 3 3) ([(vl, tK key info k), (vi, info), ((slc b31 0 1 1), [BitVec.ofNat 8 (k + 1)])]) _ (hT.mono fun b o e => (hm14).rest b o e) (Rd.slaAll ((Mem.pick3 [_, _] Ho Hl [_] _ hm14)).h0 sD) sD (Rd.mkA (f := Prod.fst) (l := [(vl, tK key info k), (vi, info), ((slc b31 0 1 1), [BitVec.ofNat 8 (k + 1)])]) hm14.h0) (allp_cons (gvl.rd (Mem.pick2 [_, _] Ho Hl _ hm14)) (allp_cons (Rd.ofRest hri hm14) (allp_cons (Rd.mkA hm14.h1) allp_nil))) (by rw [joinL_three]; simp only [List.length_append, List.length_cons, List.length_nil]; omega) sD)) ?_
         rintro _ w15 ⟨rfl, _ew15⟩
         have hm15 := hm14.ext _ew15
         refine rw_c rfl (or_alloc_agg hm15 ti23) ?_
         rintro _ w17 ⟨b11, rfl, _ew17, hm17⟩
         refine rw_n (or_store_agg (f := u8) (l := hmacP key (joinL ([(vl, tK key info k), (vi, info), ((slc b31 0 1 1), [BitVec.ofNat 8 (k + 1)])]))) u8_one ti23 rfl rfl sD hm17.h0 sZ rfl) ?_
         rintro _ w18 uq18
         have hm18 := hm17.upd0 uq18
         refine rN ?_
         have hm19 := Mem.drop ([(b32, .cells #[vl, vi, (slc b31 0 1 1)] 26 (0, 0))]) _ (Mem.pick [_] [_] _ hm18)
         have hm20 := Mem.drop ([(b31, .cells (cl u8 ([BitVec.ofNat 8 (k + 1)])) 5 (0, 0))]) _ (Mem.pick [_] [_] _ hm19)
         refine CW.abs (fun g => g 0 = (agg u8 key) ∧ g 1 = vi ∧ g 2 = (i64 n) ∧ g 3 = (ptr b3 0) ∧ g 6 = (Value.slice none 0 0) ∧ g 7 = (i64 0) ∧ g 8 = so ∧ g 9 = vl ∧ g 10 = (u8 (BitVec.ofNat 8 (k + 1))) ∧ g 11 = (ptr b11 0) ∧ g 17 = (bl (decide (8160 < n))) ∧ g 24 = (bl (decide ((ol.length : Int) < n))) ∧ True) ⟨s0, s1, s2, s3, s6, s7, s8, s9, s10, rfl, s17, rfl, trivial⟩ ?_
         rintro fr21 ⟨s0, s1, s2, s3, s6, s7, s8, s9, s10, s11, s17, s24, _⟩
         refine sR <| rw_q rfl (ev_slice_sla (i := 0) (j := 32) uT23 ti5 s11 (optI_none _ _) (optI_none _ _) oM sD sD) <| rw_q rfl (ev_assign (v := (sla b11 0 1 0 32 32)) rfl) ?_
         refine rN (cw_region ?_)
         refine rM rfl s8 <| rw_q rfl (ev_move (v := (sla b11 0 1 0 32 32)) rfl) <| rw_c rfl (or_append (f := u8) (Hs := Ho) (H := [(b11, .cells (cl u8 (hmacP key (joinL ([(vl, tK key info k), (vi, info), ((slc b31 0 1 1), [BitVec.ofNat 8 (k + 1)])])))) 23 (0, 0))] ++ (Hl ++ ([(b3, .cells (cl u8 key) 23 (0, 0))]))) (Mem.pick [_] Ho _ hm20) goo rfl rfl (Rd.slaAll hm20.h0 sD) uT26 uT26 ti5 rfl u8_one sD sD) ?_
         rintro sv22 w22 ⟨Hs22, hm22, g22⟩
         replace g22 : Grow u8 5 sv22 (ol ++ (hmacP key (joinL ([(vl, tK key info k), (vi, info), ((slc b31 0 1 1), [BitVec.ofNat 8 (k + 1)])])))) Hs22 := g22
         refine rA rfl (v := sv22) rfl ?_
         refine rw_nil (kBlk_normal (cw_region ?_))
         refine rM rfl s10 <| rw_q rfl (ev_u8_add (b := 1#8) rfl rfl) <| rw_q rfl (ev_assign (v := (u8 ((BitVec.ofNat 8 (k + 1)) + 1#8))) rfl) <| rN ?_
         have htn : hmacP key (joinL ([(vl, tK key info k), (vi, info), ((slc b31 0 1 1), [BitVec.ofNat 8 (k + 1)])])) = tK key info (k + 1) := by rw [tK_succ, joinL_three]
         have hm23 := Mem.drop Hl _ (Mem.pick2 Hs22 [_] Hl _ hm22)
         exact ⟨⟨k + 1, ol ++ (hmacP key (joinL ([(vl, tK key info k), (vi, info), ((slc b31 0 1 1), [BitVec.ofNat 8 (k + 1)])]))), sv22, Hs22, (sla b11 0 1 0 32 32), [(b11, .cells (cl u8 (hmacP key (joinL ([(vl, tK key info k), (vi, info), ((slc b31 0 1 1), [BitVec.ofNat 8 (k + 1)])])))) 23 (0, 0))], (.inr oM), (by rw [outK_succ, ← htn, hol]), g22, (htn ▸ (by have e : sla b11 0 1 0 32 32 = slc b11 0 32 32 := sla_full (by decide); rw [e]; exact Grow.ofE u8 23 b11 _ (by rw [hmacP_length]))), s0, s1, s2, s3, s6, s7, rfl, rfl, (congrArg u8 (byte_succ k)), s17, hm23⟩, (by show n.toNat + 1 - sllen sv22 < n.toNat + 1 - sllen _; rw [z8, goo.sllen, Grow.sllen g22]; simp only [List.length_append, hmacP_length]; omega)⟩
       · -- false
         have hc12p := of_decide_eq_false hc12
         refine cw_exit ?_
         refine kThen_exit (kThen_exit (kBlk_hit ?_))
         refine cw_seq ?_
         have hbad : badN n = false := by simp [badN]; omega
         have hkn : k = (n.toNat + 31) / 32 := by omega
         refine cw_region <| rM rfl s8 <| rM rfl s2 <| rM rfl s2 <| rw_q rfl (ev_slice3_rd (j := n) (goo.rd hm11) uT26 ti5 rfl rfl rfl oM sD) <| rw_q rfl (ev_assign (v := (sub3v so 0 n n)) rfl) ?_
         refine rw_q rfl (ev_assign (v := (i64 0)) rfl) ?_
         refine rN (cw_ret ?_)
         refine fnPost_ret [(sub3v so 0 n n), (i64 0)] ⟨rfl, rfl, trivial⟩ ?_
         have hm24 := Mem.drop Hl _ (Mem.pick Ho Hl _ hm11)
         have hm25 := Mem.drop ([(b3, .cells (cl u8 key) 23 (0, 0))]) _ (Mem.pick Ho [_] _ hm24)
         exact ⟨_, Ho, by unfold errP; rw [if_neg (by rw [hbad]; decide)]; rfl, by unfold expandQ expandP; rw [if_neg (by rw [hbad]; decide), ← hkn, ← hol]; exact (Grow.cut (j := n) goo oM sD), by simpa using hm25⟩

theorem c_extract (va : Value) (la : List (BitVec 8)) (vb : Value) (lb : List (BitVec 8)) (w0 : World)  (hT : Tabs (blks w0)) (hra : Rd (blks w0) u8 va la) (hla : la.length ≤ 1048576) (hrb : Rd (blks w0) u8 vb lb) (hlb : lb.length ≤ 1048576) : CallsR Tryd.prog 60 #[va, vb] w0 (fun r w1 => r = (agg u8 (extractP la lb)) ∧ Ext w0 w1) := by
 refine callsR_of_cw (args := [va, vb]) Tryd.func60 rfl Tryd.ntmps60 Tryd.results60 rfl ?_
 have hm0 : Mem w0 (restOf w0) [] := Mem.of_world w0
 refine sR <| rw_c rfl (or_alloc_agg hm0 ti23) ?_
 rintro _ w1 ⟨b4, rfl, _ew1, hm1⟩
 refine rN (cw_seq (sR ?_))
 refine rM rfl (v := va) rfl <| rw_q (v := (i64 (la.length : Int))) rfl (ev_len_rd (Rd.ofRest hra hm1) uT26 rfl) <| rw_q rfl (ev_i64_eql (b := 0) rfl rfl) <| rN ?_
 refine cw_cond rfl (fun hc2 => ?_) (fun hc2 => ?_)
 · -- true
   have hc2p := eq_of_beq hc2
   refine cw_region <| rw_c rfl (or_makeSlice hm1 uT26 ti5 rfl rfl oM oM oM oM) ?_
   rintro _ w3 ⟨b8, rfl, _ew3, hm3⟩
   rw [rep_cells u8 0 rfl] at hm3
   have hm3 : Mem w3 (restOf w0) [(b8, .cells (cl u8 (List.replicate 32 (0 : BitVec 8))) 5 (0, 0)), (b4, .cells (cl u8 (List.replicate 32 0)) 23 (0, 0))] := hm3
   refine rw_q rfl (ev_assign (v := (slc b8 0 32 32)) rfl) ?_
   refine rN (sR ?_)
   refine rw_q rfl (ev_move (v := (slc b8 0 32 32)) rfl) <| rM rfl (v := vb) rfl <| rw_c rfl (or_buildSlice_ones [vb] (List.all_eq_true.1 (one_cons (Rd.one (Rd.ofRest hrb hm3)) one_nil)) hm3 uT71 ti26 rfl rfl rfl) ?_
   rintro _ w4 ⟨b11, rfl, _ew4, hm4⟩
   have hm4 : Mem w4 (restOf w0) [(b11, .cells #[vb] 26 (0, 0)), (b8, .cells (cl u8 (List.replicate 32 (0 : BitVec 8))) 5 (0, 0)), (b4, .cells (cl u8 (List.replicate 32 0)) 23 (0, 0))] := hm4
   refine rw_c rfl (opR_call Tryd.func28 bd28 nm28 (args2 rfl rfl) (c_hmac (slc b8 0 32 32) (List.replicate 32 (0 : BitVec 8)) (slc b11 0 1 1) ([(vb, lb)]) _ (hT.mono fun b o e => (hm4).rest b o e) (Rd.mkE hm4.h1 sD) sD (Rd.mkA (f := Prod.fst) (l := [(vb, lb)]) hm4.h0) (allp_cons (Rd.ofRest hrb hm4) allp_nil) (by rw [joinL_one]; omega) sD)) ?_
   rintro _ w5 ⟨rfl, _ew5⟩
   have hm5 := hm4.ext _ew5
   refine rw_n (or_store_agg (f := u8) (l := hmacP (List.replicate 32 (0 : BitVec 8)) (joinL ([(vb, lb)]))) u8_one ti23 rfl rfl sD hm5.h2 sZ rfl) ?_
   rintro _ w7 uq7
   have hm7 := hm5.upd2 uq7
   refine rN (cw_ret ?_)
   refine fnPost_ret [(agg u8 (hmacP (List.replicate 32 (0 : BitVec 8)) (joinL ([(vb, lb)]))))] ⟨⟨_, rfl, loadVar_run uT23 rfl ti23 hm7.h2 sZ⟩, trivial⟩ ?_
   exact ⟨congrArg (agg u8) (by unfold extractP saltP; rw [joinL_one, if_pos oM]), hm7.toExt⟩
 · -- false
   have hc2p := ne_of_beq_false hc2
   refine cw_skip (kThen_normal (sR ?_))
   refine rM rfl (v := va) rfl <| rM rfl (v := vb) rfl <| rw_c rfl (or_buildSlice_ones [vb] (List.all_eq_true.1 (one_cons (Rd.one (Rd.ofRest hrb hm1)) one_nil)) hm1 uT71 ti26 rfl rfl rfl) ?_
   rintro _ w8 ⟨b11_1, rfl, _ew8, hm8⟩
   have hm8 : Mem w8 (restOf w0) [(b11_1, .cells #[vb] 26 (0, 0)), (b4, .cells (cl u8 (List.replicate 32 0)) 23 (0, 0))] := hm8
   refine rw_c rfl (opR_call Tryd.func28 bd28 nm28 (args2 rfl rfl) (c_hmac va la (slc b11_1 0 1 1) ([(vb, lb)]) _ (hT.mono fun b o e => (hm8).rest b o e) (Rd.ofRest hra hm8) sD (Rd.mkA (f := Prod.fst) (l := [(vb, lb)]) hm8.h0) (allp_cons (Rd.ofRest hrb hm8) allp_nil) (by rw [joinL_one]; omega) sD)) ?_
   rintro _ w9 ⟨rfl, _ew9⟩
   have hm9 := hm8.ext _ew9
   refine rw_n (or_store_agg (f := u8) (l := hmacP la (joinL ([(vb, lb)]))) u8_one ti23 rfl rfl sD hm9.h1 sZ rfl) ?_
   rintro _ w11 uq11
   have hm11 := hm9.upd1 uq11
   refine rN (cw_ret ?_)
   refine fnPost_ret [(agg u8 (hmacP la (joinL ([(vb, lb)]))))] ⟨⟨_, rfl, loadVar_run uT23 rfl ti23 hm11.h1 sZ⟩, trivial⟩ ?_
   exact ⟨congrArg (agg u8) (by unfold extractP saltP; rw [joinL_one, if_neg oM]), hm11.toExt⟩

end Go.Proofs.YtmiagmbgfhakgaaDoor

