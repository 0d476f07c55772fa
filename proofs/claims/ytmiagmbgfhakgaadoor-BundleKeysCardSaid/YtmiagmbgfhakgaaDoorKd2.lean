/- Contracts: kdf, second part. Conditions: none beyond those that each theorem states. -/
import Derived.Test.YtmiagmbgfhakgaaDoorKd1
namespace Go.Proofs.YtmiagmbgfhakgaaDoor
set_option linter.unusedVariables false
set_option linter.unusedSimpArgs false

def chunksP (m : Nat) (L : List (BitVec 8)) : List (List (BitVec 8)) := (List.range m).map fun i => (L.drop (32 * i)).take 32
theorem chunks_succ (m : Nat) (L : List (BitVec 8)) : chunksP (m + 1) L = chunksP m L ++ [(L.drop (32 * m)).take 32] := by unfold chunksP; rw [List.range_succ, List.map_append]; rfl
@[simp] theorem chunksP_length (m : Nat) (L : List (BitVec 8)) : (chunksP m L).length = m := by simp [chunksP]
def badK (n : Int) : Bool := decide (n < 0) || decide (255 < n)
def errK (n : Int) : Int := if badK n then 2 else 0
def manyK (n : Int) : Nat := if badK n then 0 else n.toNat
theorem manyK_le (n : Int) : manyK n ≤ 255 := by
  unfold manyK badK; split
  · omega
  · rename_i h; simp at h; omega
def keysQ (salt secret purpose : List (BitVec 8)) (n : Int) : List (List (BitVec 8)) := chunksP (manyK n) (expandP (extractP salt secret) purpose (32 * manyK n))
theorem expand_keys {key info : List (BitVec 8)} {n : Int} (h : 0 ≤ n) : expandQ key info ((if 8160 < n then 8160 else n) * 32) = expandP key info (32 * manyK n) ∧ errP ((if 8160 < n then 8160 else n) * 32) = errK n := by
  by_cases hb : 255 < n
  · have h1 : badK n = true := by simp [badK, hb]
    have h2 : badN ((if 8160 < n then 8160 else n) * 32) = true := by
      unfold badN; split <;> simp <;> omega
    unfold expandQ errP errK manyK
    rw [h1, h2]
    simp [expandP, outK]
  · have h1 : badK n = false := by simp [badK]; omega
    have h3 : (if 8160 < n then 8160 else n) = n := if_neg oM
    have h2 : badN (n * 32) = false := by unfold badN; simp; omega
    unfold expandQ errP errK manyK
    rw [h3, h1, h2]
    have e : (n * 32).toNat = 32 * n.toNat := by omega
    simp [e]
theorem take_front {ol : List (BitVec 8)} {n : Int} : (ol.drop (0 : Int).toNat).take ((n : Int).toNat - (0 : Int).toNat) = ol.take n.toNat := by
  rw [show (0 : Int).toNat = 0 from rfl, List.drop_zero, Nat.sub_zero]
theorem tail32 {X bl : List (BitVec 8)} {j : Nat} (h : bl = X.drop (32 * j)) : (bl.drop (32 : Int).toNat).take ((bl.length : Int).toNat - (32 : Int).toNat) = X.drop (32 * (j + 1)) := by
  subst h
  have e : (32 : Int).toNat = 32 := rfl
  rw [e, List.take_of_length_le (by simp; omega), List.drop_drop]; congr 1
theorem head32 {X bl : List (BitVec 8)} {j : Nat} (h : bl = X.drop (32 * j)) : ((bl.drop 0).take 32).take 32 = (X.drop (32 * j)).take 32 := by
  subst h; rw [List.drop_zero, List.take_take]; rfl
theorem expandP_eq (key info : List (BitVec 8)) (n : Nat) : expandP key info n = (outK key info ((n + 31) / 32)).take n := rfl
attribute [local irreducible] hmacP tK outK expandP extractP
set_option maxHeartbeats 1000000 in
theorem c_rexpand (key : List (BitVec 8)) (vi : Value) (info : List (BitVec 8)) (n : Int) (w0 : World)  (hk : key.length = 32) (hri : Rd (blks w0) u8 vi info) (hli : info.length ≤ 1048576) (hn : 0 ≤ n ∧ n ≤ 8160) : CallsR Tryd.prog 46 #[(agg u8 key), vi, (i64 n)] w0 (fun r w1 => ∃ Hs, Grow u8 5 r (expandP key info n.toNat) Hs ∧ Mem w1 (restOf w0) Hs) := by
 refine callsR_of_cw (args := [(agg u8 key), vi, (i64 n)]) Tryd.func46 rfl Tryd.ntmps46 Tryd.results46 rfl ?_
 have hm0 : Mem w0 (restOf w0) [] := Mem.of_world w0
 refine sR ?_
 refine rw_c rfl (or_box_agg (f := u8) (l := key) hm0 rfl) ?_
 rintro _ w1 ⟨b3, rfl, _ew1, hm1⟩
 refine rw_q rfl (ev_assign (v := (Value.slice none 0 0)) rfl) ?_
 refine rN (sR ?_)
 refine rw_c rfl (or_buildSlice_cl u8 [] u8_one hm1 uT26 ti5 rfl (by simp [pairs]) rfl) ?_
 rintro _ w2 ⟨b12, rfl, _ew2, hm2⟩
 refine rw_c rfl (or_buildSlice_cl u8 [] u8_one hm2 uT26 ti5 rfl (by simp [pairs]) rfl) ?_
 rintro _ w3 ⟨b13, rfl, _ew3, hm3⟩
 refine rw_q rfl (ev_assign (v := (slc b12 0 0 0)) rfl) <| rw_q rfl (ev_assign (v := (slc b13 0 0 0)) rfl) ?_
 refine rN (cw_seq (sR ?_))
 refine rw_q rfl (ev_assign (v := (i64 1)) rfl) ?_
 refine rN (cw_block ?_)
 refine cw_loop (fun g wv => ∃ (k : Nat) (ol : List (BitVec 8)) (so : Value) (Ho : List (Nat × Obj)) (vt : Value) (Ht : List (Nat × Obj)), (k ≤ 255) ∧ (k = 0 ∨ 32 * ((k : Int) - 1) < n) ∧ (ol = outK key info k) ∧ (Grow u8 5 so ol Ho) ∧ (Grow u8 5 vt (tK key info k) Ht) ∧ g 0 = (agg u8 key) ∧ g 1 = vi ∧ g 2 = (i64 n) ∧ g 3 = (ptr b3 0) ∧ g 6 = (Value.slice none 0 0) ∧ g 7 = so ∧ g 8 = vt ∧ g 9 = (i64 ((k + 1 : Nat) : Int)) ∧ Mem wv (restOf w0) (Ho ++ (Ht ++ ([(b3, .cells (cl u8 key) 23 (0, 0))])))) (fun g wv => (257 - RowKit.intOf (g 9)).toNat) ?_ ?_
 have hm4 := (Mem.pick [_, _] [_] _ hm3)
 have hm5 := (Mem.pick [_] [_] _ hm4)
 have hm6 := (Mem.pick [_, _] [_] _ hm5)
 · exact ⟨0, [], (slc b12 0 0 0), [(b12, .cells (cl u8 ([])) 5 (0, 0))], (slc b13 0 0 0), [(b13, .cells (cl u8 ([])) 5 (0, 0))], oM, (.inl rfl), (outK_zero _ _).symm, (Grow.of u8 5 b12 []), ((tK_zero key info).symm ▸ Grow.of u8 5 b13 []), rfl, rfl, rfl, rfl, rfl, rfl, rfl, rfl, hm6⟩
 · rintro fr7 w8 ⟨k, ol, so, Ho, vt, Ht, hk255, hk0, hol, goo, gvt, s0, s1, s2, s3, s6, s7, s8, s9, hm8⟩
   have z7 := s7
   have z8 := s8
   have z9 := s9
   have holn : ol.length = 32 * k := by rw [hol, outK_len]
   have htl := tK_le key info k
   refine cw_seq (sR ?_)
   refine rM rfl s9 <| rw_q rfl (ev_i64_leq (b := 255) rfl rfl) <| rw_q rfl (ev_move (v := (bl (decide (((k + 1 : Nat) : Int) ≤ 255)))) rfl) ?_
   rcases Bool.eq_false_or_eq_true (decide (((k + 1 : Nat) : Int) ≤ 255)) with hb9 | hb9
   · -- true
     have hb9p := of_decide_eq_true hb9
     refine rw_gyq (s := 16) rfl rfl hb9 rfl (ev_move s7) <| rw_gyq (s := 16) rfl rfl hb9 rfl (ev_len_rd (goo.rd hm8) uT26 rfl) <| rw_gyq (s := 16) rfl rfl hb9 rfl (ev_move s2) <| rw_gyq (s := 16) rfl rfl hb9 rfl (ev_i64_lss rfl rfl) <| rw_q rfl (ev_pick_tk rfl hb9 rfl) ?_
     refine rN ?_
     refine cw_cond rfl (fun hc10 => ?_) (fun hc10 => ?_)
     · -- true
       have hc10p := of_decide_eq_true hc10
       refine cw_skip (kThen_normal (cw_seq (cw_block (sR ?_))))
       refine rw_c rfl (or_buildSlice_cl u8 [] u8_one hm8 uT26 ti5 rfl (by simp [pairs]) rfl) ?_
       rintro _ w11 ⟨b24, rfl, _ew11, hm11⟩
       refine rM rfl s8 <| rw_c rfl (or_append (f := u8) (Hs := [(b24, .cells (cl u8 ([])) 5 (0, 0))]) (H := Ho ++ (Ht ++ ([(b3, .cells (cl u8 key) 23 (0, 0))]))) hm11 (Grow.of u8 5 b24 ([])) rfl rfl (gvt.rd (Mem.pick2 [_] Ho Ht _ hm11)) uT26 uT26 ti5 rfl u8_one sD sD) ?_
       rintro sv12 w12 ⟨Hs12, hm12, g12⟩
       replace g12 : Grow u8 5 sv12 (tK key info k) Hs12 := g12
       refine rA rfl (v := sv12) rfl ?_
       refine rN ?_
       refine CW.abs (fun g => g 0 = (agg u8 key) ∧ g 1 = vi ∧ g 2 = (i64 n) ∧ g 3 = (ptr b3 0) ∧ g 6 = (Value.slice none 0 0) ∧ g 7 = so ∧ g 8 = vt ∧ g 9 = (i64 ((k + 1 : Nat) : Int)) ∧ g 10 = sv12 ∧ g 21 = (bl (decide ((ol.length : Int) < n))) ∧ True) ⟨s0, s1, s2, s3, s6, s7, s8, s9, rfl, rfl, trivial⟩ ?_
       rintro fr13 ⟨s0, s1, s2, s3, s6, s7, s8, s9, s10, s21, _⟩
       refine sR ?_
       refine rM rfl s10 <| rM rfl s1 <| rw_c rfl (or_append (f := u8) (Hs := Hs12) (H := Ho ++ (Ht ++ ([(b3, .cells (cl u8 key) 23 (0, 0))]))) hm12 g12 rfl rfl (Rd.ofRest hri hm12) uT26 uT26 ti5 rfl u8_one sD sD) ?_
       rintro sv14 w14 ⟨Hs14, hm14, g14⟩
       replace g14 : Grow u8 5 sv14 ((tK key info k) ++ info) Hs14 := g14
       refine rA rfl (v := sv14) rfl ?_
       refine rN (sR ?_)
       refine rM rfl (v := sv14) rfl <| rM rfl s9 <| rw_q rfl (ev_conv_i64_u8 ⟨_, uT3⟩ uT5 rfl) <| rw_c rfl (or_buildSlice_cl u8 [BitVec.ofInt 8 ((k + 1 : Nat) : Int)] u8_one hm14 uT26 ti5 rfl rfl rfl) ?_
       rintro _ w15 ⟨b33, rfl, _ew15, hm15⟩
       refine rw_c rfl (or_append (f := u8) (Hs := Hs14) (H := [(b33, .cells (cl u8 ([BitVec.ofInt 8 ((k + 1 : Nat) : Int)])) 5 (0, 0))] ++ (Ho ++ (Ht ++ ([(b3, .cells (cl u8 key) 23 (0, 0))])))) (Mem.pick [_] Hs14 _ hm15) g14 rfl rfl (Rd.mkA hm15.h0) uT26 uT26 ti5 rfl u8_one sD sD) ?_
       rintro sv16 w16 ⟨Hs16, hm16, g16⟩
       replace g16 : Grow u8 5 sv16 (((tK key info k) ++ info) ++ ([BitVec.ofInt 8 ((k + 1 : Nat) : Int)])) Hs16 := g16
       refine rA rfl (v := sv16) rfl ?_
       refine rN (sR ?_)
       refine rw_q rfl (ev_slice_sla (i := 0) (j := 32) uT23 ti5 s3 (optI_none _ _) (optI_none _ _) oM sD sD) <| rM rfl (v := sv16) rfl <| rw_c rfl (opR_call Tryd.func30 bd30 nm30 (args2 rfl rfl) (c_rhmac (sla b3 0 1 0 32 32) key sv16 (((tK key info k) ++ info) ++ ([BitVec.ofInt 8 ((k + 1 : Nat) : Int)])) _ (Rd.slaAll ((Mem.pick4 Hs16 [_] Ho Ht [_] _ hm16)).h0 sD) sD (g16.rd hm16) sD)) ?_
       rintro _ w17 ⟨rfl, _ew17⟩
       have hm17 := hm16.ext _ew17
       refine rw_c rfl (or_alloc_agg hm17 ti23) ?_
       rintro _ w19 ⟨b11, rfl, _ew19, hm19⟩
       refine rw_n (or_store_agg (f := u8) (l := hmacP key (((tK key info k) ++ info) ++ ([BitVec.ofInt 8 ((k + 1 : Nat) : Int)]))) u8_one ti23 rfl rfl sD hm19.h0 sZ rfl) ?_
       rintro _ w20 uq20
       have hm20 := hm19.upd0 uq20
       refine rN ?_
       have hm21 := Mem.drop ([(b33, .cells (cl u8 ([BitVec.ofInt 8 ((k + 1 : Nat) : Int)])) 5 (0, 0))]) _ (Mem.pick2 [_] Hs16 [_] _ hm20)
       refine CW.abs (fun g => g 0 = (agg u8 key) ∧ g 1 = vi ∧ g 2 = (i64 n) ∧ g 3 = (ptr b3 0) ∧ g 6 = (Value.slice none 0 0) ∧ g 7 = so ∧ g 8 = vt ∧ g 9 = (i64 ((k + 1 : Nat) : Int)) ∧ g 10 = sv16 ∧ g 11 = (ptr b11 0) ∧ g 21 = (bl (decide ((ol.length : Int) < n))) ∧ True) ⟨s0, s1, s2, s3, s6, s7, s8, s9, rfl, rfl, s21, trivial⟩ ?_
       rintro fr22 ⟨s0, s1, s2, s3, s6, s7, s8, s9, s10, s11, s21, _⟩
       refine sR ?_
       refine rw_c rfl (or_buildSlice_cl u8 [] u8_one hm21 uT26 ti5 rfl (by simp [pairs]) rfl) ?_
       rintro _ w23 ⟨b38, rfl, _ew23, hm23⟩
       refine rw_q rfl (ev_slice_sla (i := 0) (j := 32) uT23 ti5 s11 (optI_none _ _) (optI_none _ _) oM sD sD) <| rw_c rfl (or_append (f := u8) (Hs := [(b38, .cells (cl u8 ([])) 5 (0, 0))]) (H := [(b11, .cells (cl u8 (hmacP key (((tK key info k) ++ info) ++ ([BitVec.ofInt 8 ((k + 1 : Nat) : Int)])))) 23 (0, 0))] ++ (Hs16 ++ (Ho ++ (Ht ++ ([(b3, .cells (cl u8 key) 23 (0, 0))]))))) hm23 (Grow.of u8 5 b38 ([])) rfl rfl (Rd.slaAll hm23.h1 sD) uT26 uT26 ti5 rfl u8_one sD sD) ?_
       rintro sv24 w24 ⟨Hs24, hm24, g24⟩
       replace g24 : Grow u8 5 sv24 (hmacP key (((tK key info k) ++ info) ++ ([BitVec.ofInt 8 ((k + 1 : Nat) : Int)]))) Hs24 := g24
       refine rA rfl (v := sv24) rfl ?_
       refine rN (cw_region ?_)
       refine rM rfl s7 <| rM rfl (v := sv24) rfl <| rw_c rfl (or_append (f := u8) (Hs := Ho) (H := Hs24 ++ ([(b11, .cells (cl u8 (hmacP key (((tK key info k) ++ info) ++ ([BitVec.ofInt 8 ((k + 1 : Nat) : Int)])))) 23 (0, 0))] ++ (Hs16 ++ (Ht ++ ([(b3, .cells (cl u8 key) 23 (0, 0))]))))) (Mem.pick3 Hs24 [_] Hs16 Ho _ hm24) goo rfl rfl (g24.rd hm24) uT26 uT26 ti5 rfl u8_one sD sD) ?_
       rintro sv25 w25 ⟨Hs25, hm25, g25⟩
       replace g25 : Grow u8 5 sv25 (ol ++ (hmacP key (((tK key info k) ++ info) ++ ([BitVec.ofInt 8 ((k + 1 : Nat) : Int)])))) Hs25 := g25
       refine rA rfl (v := sv25) rfl ?_
       refine rw_nil (kBlk_normal (cw_region ?_))
       refine rM rfl s9 <| rw_q rfl (ev_i64_add (b := 1) rfl rfl oM oM) <| rw_q rfl (ev_assign (v := (i64 (((k + 1 : Nat) : Int) + 1))) rfl) ?_
       refine rN ?_
       have htn : hmacP key (((tK key info k) ++ info) ++ ([BitVec.ofInt 8 ((k + 1 : Nat) : Int)])) = tK key info (k + 1) := by rw [tK_succ, ← byte_int]
       have hm26 := Mem.drop ([(b11, .cells (cl u8 (hmacP key (((tK key info k) ++ info) ++ ([BitVec.ofInt 8 ((k + 1 : Nat) : Int)])))) 23 (0, 0))]) _ (Mem.pick2 Hs25 Hs24 [_] _ hm25)
       have hm27 := Mem.drop Hs16 _ (Mem.pick2 Hs25 Hs24 Hs16 _ hm26)
       have hm28 := Mem.drop Ht _ (Mem.pick2 Hs25 Hs24 Ht _ hm27)
       exact ⟨⟨k + 1, ol ++ (hmacP key (((tK key info k) ++ info) ++ ([BitVec.ofInt 8 ((k + 1 : Nat) : Int)]))), sv25, Hs25, sv24, Hs24, oM, (.inr oM), (by rw [outK_succ, ← htn, hol]), g25, (htn ▸ g24), s0, s1, s2, s3, s6, rfl, rfl, (by show i64 _ = i64 _; congr 1), hm28⟩, meas (by show i64 _ = i64 _; congr 1) z9 (a' := ((k + 1 + 1 : Nat) : Int)) oM oM⟩
     · -- false
       have hc10p := of_decide_eq_false hc10
       refine cw_exit ?_
       refine kThen_exit (kThen_exit (kBlk_hit ?_))
       refine cw_seq ?_
       have hkn : k = (n.toNat + 31) / 32 := by omega
       refine cw_region <| rM rfl s7 <| rM rfl s2 <| rw_q rfl (ev_slice_rd (i := 0) (j := n) (goo.rd hm8) uT26 ti5 rfl (optI_none _ _) (optI_some (k := .i64) (i := n) rfl) oM sD sD) <| rw_q rfl (ev_assign (v := (subv so 0 n)) rfl) ?_
       refine rN ?_
       refine CW.abs (fun g => g 0 = (agg u8 key) ∧ g 1 = vi ∧ g 2 = (i64 n) ∧ g 3 = (ptr b3 0) ∧ g 6 = (subv so 0 n) ∧ g 7 = so ∧ g 8 = vt ∧ g 9 = (i64 ((k + 1 : Nat) : Int)) ∧ g 21 = (bl (decide ((ol.length : Int) < n))) ∧ True) ⟨s0, s1, s2, s3, rfl, s7, s8, s9, rfl, trivial⟩ ?_
       rintro fr29 ⟨s0, s1, s2, s3, s6, s7, s8, s9, s21, _⟩
       refine cw_ret <| fnPost_ret [(subv so 0 n)] ⟨s6, trivial⟩ ?_
       have hm30 := Mem.drop Ht _ (Mem.pick Ho Ht _ hm8)
       have hm31 := Mem.drop ([(b3, .cells (cl u8 key) 23 (0, 0))]) _ (Mem.pick Ho [_] _ hm30)
       have hfin : (ol.drop (0 : Int).toNat).take ((n : Int).toNat - (0 : Int).toNat) = expandP key info n.toNat := by rw [take_front, hol, hkn]; exact (expandP_eq _ _ _).symm
       exact ⟨Ho, hfin ▸ (Grow.cast (l' := (ol.drop (0 : Int).toNat).take ((n : Int).toNat - (0 : Int).toNat)) (Grow.sub (i := 0) (j := n) goo oM sD sD) rfl), by simpa using hm31⟩
   · -- false
     have hb9p := of_decide_eq_false hb9
     refine rw_gn (s := 16) rfl rfl hb9 rfl <| rw_gn (s := 16) rfl rfl hb9 rfl <| rw_gn (s := 16) rfl rfl hb9 rfl <| rw_gn (s := 16) rfl rfl hb9 rfl <| rw_q rfl (ev_pick_fk rfl hb9 rfl) ?_
     refine rN ?_
     refine cw_cond_f rfl (by decide) <| cw_exit ?_
     refine kThen_exit (kThen_exit (kBlk_hit ?_))
     refine cw_seq ?_
     have hkn : k = (n.toNat + 31) / 32 := by omega
     refine cw_region <| rM rfl s7 <| rM rfl s2 <| rw_q rfl (ev_slice_rd (i := 0) (j := n) (goo.rd hm8) uT26 ti5 rfl (optI_none _ _) (optI_some (k := .i64) (i := n) rfl) oM sD sD) <| rw_q rfl (ev_assign (v := (subv so 0 n)) rfl) ?_
     refine rN ?_
     refine CW.abs (fun g => g 0 = (agg u8 key) ∧ g 1 = vi ∧ g 2 = (i64 n) ∧ g 3 = (ptr b3 0) ∧ g 6 = (subv so 0 n) ∧ g 7 = so ∧ g 8 = vt ∧ g 9 = (i64 ((k + 1 : Nat) : Int)) ∧ g 21 = (bl false) ∧ True) ⟨s0, s1, s2, s3, rfl, s7, s8, s9, rfl, trivial⟩ ?_
     rintro fr32 ⟨s0, s1, s2, s3, s6, s7, s8, s9, s21, _⟩
     refine cw_ret <| fnPost_ret [(subv so 0 n)] ⟨s6, trivial⟩ ?_
     have hm33 := Mem.drop Ht _ (Mem.pick Ho Ht _ hm8)
     have hm34 := Mem.drop ([(b3, .cells (cl u8 key) 23 (0, 0))]) _ (Mem.pick Ho [_] _ hm33)
     have hfin : (ol.drop (0 : Int).toNat).take ((n : Int).toNat - (0 : Int).toNat) = expandP key info n.toNat := by rw [take_front, hol, hkn]; exact (expandP_eq _ _ _).symm
     exact ⟨Ho, hfin ▸ (Grow.cast (l' := (ol.drop (0 : Int).toNat).take ((n : Int).toNat - (0 : Int).toNat)) (Grow.sub (i := 0) (j := n) goo oM sD sD) rfl), by simpa using hm34⟩

set_option maxHeartbeats 1000000 in
theorem c_keys (va : Value) (la : List (BitVec 8)) (vb : Value) (lb : List (BitVec 8)) (pu : ByteArray) (n : Int) (w0 : World)  (hT : Tabs (blks w0)) (hra : Rd (blks w0) u8 va la) (hla : la.length ≤ 1048576) (hrb : Rd (blks w0) u8 vb lb) (hlb : lb.length ≤ 1048576) (hpu : pu.size ≤ 1048576) (hnr : -9223372036854775808 ≤ n ∧ n ≤ 9223372036854775807) : CallsR Tryd.prog 39 #[va, vb, (Value.string pu), (i64 n)] w0 (fun r w1 => ∃ v Hs, r = Value.tuple #[v, i64 (errK n)] ∧ GrowK (encA u8) 32 23 v (keysQ la lb (bytesL pu) n) Hs ∧ Mem w1 (restOf w0) Hs) := by
 refine callsR_of_cw (args := [va, vb, (Value.string pu), (i64 n)]) Tryd.func39 rfl Tryd.ntmps39 Tryd.results39 rfl ?_
 have hm0 : Mem w0 (restOf w0) [] := Mem.of_world w0
 refine sR ?_
 refine rw_q rfl (ev_assign (v := (Value.slice none 0 0)) rfl) <| rw_q rfl (ev_assign (v := (i64 0)) rfl) ?_
 refine rN (cw_seq (sR ?_))
 refine rw_q rfl (ev_move (v := (i64 n)) rfl) <| rw_q rfl (ev_i64_lss (b := 0) rfl rfl) ?_
 refine rN ?_
 refine cw_cond rfl (fun hc1 => ?_) (fun hc1 => ?_)
 · -- true
   have hc1p := of_decide_eq_true hc1
   refine sR ?_
   refine rw_q rfl (ev_assign (v := (Value.slice none 0 0)) rfl) <| rw_q rfl (ev_assign (v := (i64 2)) rfl) ?_
   refine rN (cw_ret (kThen_ret ?_))
   refine fnPost_ret [(Value.slice none 0 0), (i64 2)] ⟨rfl, rfl, trivial⟩ ?_
   have hbad : badK n = true := by simp [badK]; omega
   exact ⟨Value.slice none 0 0, [], by unfold errK; rw [if_pos hbad]; rfl, by unfold keysQ manyK; rw [if_pos hbad]; exact GrowK.none _ _ _, hm0⟩
 · -- false
   have hc1p := of_decide_eq_false hc1
   refine cw_skip (kThen_normal (sR ?_))
   refine rM rfl (v := va) rfl <| rM rfl (v := vb) rfl <| rw_c rfl (opR_call Tryd.func60 bd60 nm60 (args2 rfl rfl) (c_extract va la vb lb _ (hT.mono fun b o e => (hm0).rest b o e) (Rd.ofRest hra hm0) sD (Rd.ofRest hrb hm0) sD)) ?_
   rintro _ w2 ⟨rfl, _ew2⟩
   have hm2 := hm0.ext _ew2
   refine rw_q rfl (ev_move (v := (Value.string pu)) rfl) <| rw_c rfl (or_conv_str (s := pu) hm2 uT9 uT26 uT5 rfl sD) ?_
   rintro _ w4 ⟨b18, cap4, cc4, fz4, rfl, _ew4, hm4, hcv4⟩
   have hm4 : Mem w4 (restOf w0) [(b18, .cells cc4 5 fz4)] := hm4
   refine rw_q rfl (ev_move (v := (i64 n)) rfl) <| rw_q (v := (i64 (if 8160 < n then 8160 else n))) rfl (ev_min_i64 (j := 8160) rfl rfl) <| rw_q rfl (ev_i64_mul (b := 32) rfl rfl oM oM) <| rw_c rfl (opR_call Tryd.func59 bd59 nm59 (args3 rfl rfl rfl) (c_expand (extractP la lb) (slc b18 0 pu.size cap4) (bytesL pu) ((if 8160 < n then 8160 else n) * 32) _ (hT.mono fun b o e => (hm4).rest b o e) sD (hcv4 _ hm4.h0) sD)) ?_
   rintro _ w5 ⟨vxq6, Hsq6, rfl, gvxq6, k_w5⟩
   have hm5 : Mem w5 (restOf w0) (Hsq6 ++ ([(b18, .cells cc4 5 fz4)])) := Mem.new (H := [(b18, .cells cc4 5 fz4)]) (H' := Hsq6) hm4 k_w5
   obtain ⟨X, hX⟩ : ∃ X, X = expandP (extractP la lb) (bytesL pu) (32 * manyK n) := ⟨_, rfl⟩
   have hXl : X.length = 32 * manyK n := by rw [hX, expandP_length]
   have hmk := manyK_le n
   have hek := expand_keys (key := extractP la lb) (info := bytesL pu) (n := n) oM
   have gX7 := gvxq6
   rw [hek.1, ← hX] at gX7
   refine rw_q rfl (ev_move (v := (Value.tuple #[vxq6, (i64 (errP ((if 8160 < n then 8160 else n) * 32)))])) rfl) <| rw_q (v := vxq6) rfl (ev_extract rfl rfl) <| rw_q (v := (i64 (errP ((if 8160 < n then 8160 else n) * 32)))) rfl (ev_extract rfl rfl) <| rA rfl (v := vxq6) rfl <| rw_q rfl (ev_assign (v := (i64 (errP ((if 8160 < n then 8160 else n) * 32)))) rfl) ?_
   refine rN ?_
   refine CW.abs (fun g => g 0 = va ∧ g 1 = vb ∧ g 2 = (Value.string pu) ∧ g 3 = (i64 n) ∧ g 8 = (Value.slice none 0 0) ∧ g 9 = (i64 (errP ((if 8160 < n then 8160 else n) * 32))) ∧ g 10 = vxq6 ∧ g 12 = (bl (decide (n < 0))) ∧ True) ⟨rfl, rfl, rfl, rfl, rfl, rfl, rfl, rfl, trivial⟩ ?_
   rintro fr8 ⟨s0, s1, s2, s3, s8, s9, s10, s12, _⟩
   refine cw_seq (cw_block ?_)
   refine cw_loop (fun g wv => ∃ (j : Nat) (bq : List (BitVec 8)) (bv : Value) (Hb : List (Nat × Obj)) (sk : Value) (Hk : List (Nat × Obj)), (j ≤ manyK n) ∧ (bq = X.drop (32 * j)) ∧ (Grow u8 5 bv bq Hb) ∧ (GrowK (encA u8) 32 23 sk (chunksP j X) Hk) ∧ g 0 = va ∧ g 1 = vb ∧ g 2 = (Value.string pu) ∧ g 3 = (i64 n) ∧ g 8 = sk ∧ g 9 = (i64 (errP ((if 8160 < n then 8160 else n) * 32))) ∧ g 10 = bv ∧ g 12 = (bl (decide (n < 0))) ∧ Mem wv (restOf w0) (Hb ++ (Hk ++ ([])))) (fun g wv => sllen (g 10)) ?_ ?_
   have hm9 := Mem.drop ([(b18, .cells cc4 5 fz4)]) _ (Mem.pick Hsq6 [_] _ hm5)
   · exact ⟨0, X, vxq6, Hsq6, (Value.slice none 0 0), [], (Nat.zero_le _), (by simp), gX7, (GrowK.none (encA u8) 32 23), s0, s1, s2, s3, s8, s9, s10, s12, hm9⟩
   · rintro fr10 w11 ⟨j, bq, bv, Hb, sk, Hk, hj, hbl, gbb, gkk, s0, s1, s2, s3, s8, s9, s10, s12, hm11⟩
     have z10 := s10
     have z8 := s8
     have hbn : bq.length = 32 * manyK n - 32 * j := by rw [hbl, List.length_drop, hXl]
     refine cw_seq (sR ?_)
     refine rM rfl s10 <| rw_q (v := (i64 (bq.length : Int))) rfl (ev_len_rd (gbb.rd hm11) uT26 rfl) <| rw_q rfl (ev_i64_gtr (b := 0) rfl rfl) ?_
     refine rN ?_
     refine cw_cond rfl (fun hc12 => ?_) (fun hc12 => ?_)
     · -- true
       have hc12p := of_decide_eq_true hc12
       refine cw_skip (kThen_normal (cw_block' (sR ?_)))
       refine rM rfl s8 <| rM rfl s10 <| rw_q rfl (ev_slice_rd (i := 0) (j := 32) (gbb.rd hm11) uT26 ti5 rfl (optI_none _ _) (optI_some (k := .i64) (i := 32) rfl) oM sD sD) <| rw_q rfl (ev_sap ((Grow.cast (l' := (bq.drop 0).take 32) (Grow.sub (i := 0) (j := 32) gbb oM sD sD) rfl).rd hm11) uT23 rfl sD) <| rw_q (v := (agg u8 (((bq.drop 0).take 32).take 32))) rfl (ev_load_sap (l := (bq.drop 0).take 32) ((Grow.cast (l' := (bq.drop 0).take 32) (Grow.sub (i := 0) (j := 32) gbb oM sD sD) rfl).rd hm11) uT23 ti23 rfl sD rfl) <| rw_c rfl (or_buildSlice_k1 (cs := (cl u8 (((bq.drop 0).take 32).take 32))) hm11 uT57 ti23 rfl rfl rfl sZ) ?_
       rintro _ w13 ⟨b33, rfl, _ew13, hm13⟩
       have hm13 : Mem w13 (restOf w0) ([(b33, .cells (cl u8 (((bq.drop 0).take 32).take 32)) 23 (0, 0))] ++ (Hb ++ (Hk ++ ([])))) := hm13
       refine rw_c rfl (or_appendK (enc := (encA u8)) (k := 32) (Hs := Hk) (H := [(b33, .cells (cl u8 (((bq.drop 0).take 32).take 32)) 23 (0, 0))] ++ (Hb ++ ([]))) (Mem.pick2 [_] Hb Hk _ hm13) gkk rfl rfl (RdK.ofOne (enc := (encA u8)) (k := 32) (a := (((bq.drop 0).take 32).take 32)) hm13.h0 rfl (by simp only [encA, List.length_map]; first | omega | (simp; done) | (simp; omega) | decide)) uT57 uT57 ti23 rfl rfl (fun _ _ => encA_one u8_one _) sD sD) ?_
       rintro sv14 w14 ⟨Hs14, hm14, g14⟩
       replace g14 : GrowK (encA u8) 32 23 sv14 ((chunksP j X) ++ ([((bq.drop 0).take 32).take 32])) Hs14 := g14
       refine rA rfl (v := sv14) rfl ?_
       refine rN ?_
       have hm15 := Mem.drop ([(b33, .cells (cl u8 (((bq.drop 0).take 32).take 32)) 23 (0, 0))]) _ (Mem.pick Hs14 [_] _ hm14)
       refine CW.abs (fun g => g 0 = va ∧ g 1 = vb ∧ g 2 = (Value.string pu) ∧ g 3 = (i64 n) ∧ g 8 = sv14 ∧ g 9 = (i64 (errP ((if 8160 < n then 8160 else n) * 32))) ∧ g 10 = bv ∧ g 12 = (bl (decide (n < 0))) ∧ g 27 = (bl (decide (0 < (bq.length : Int)))) ∧ True) ⟨s0, s1, s2, s3, rfl, s9, s10, s12, rfl, trivial⟩ ?_
       rintro fr16 ⟨s0, s1, s2, s3, s8, s9, s10, s12, s27, _⟩
       refine cw_region <| rM rfl s10 <| rw_q rfl (ev_slice_rd (i := 32) (j := (bq.length : Int)) (gbb.rd (Mem.pick Hs14 Hb _ hm15)) uT26 ti5 rfl (optI_some (k := .i64) (i := 32) rfl) (optI_none _ _) oM sD sD) <| rw_q rfl (ev_assign (v := (subv bv 32 (bq.length : Int))) rfl) ?_
       refine rw_nil (kBlk_normal (kThen_normal ?_))
       have hm17 := (Mem.pick Hs14 Hb _ hm15)
       exact ⟨⟨j + 1, ((bq.drop (32 : Int).toNat).take (((bq.length : Int) : Int).toNat - (32 : Int).toNat)), (subv bv 32 (bq.length : Int)), Hb, sv14, Hs14, oM, (tail32 hbl), (Grow.cast (l' := (bq.drop (32 : Int).toNat).take (((bq.length : Int) : Int).toNat - (32 : Int).toNat)) (Grow.sub (i := 32) (j := (bq.length : Int)) gbb oM sD sD) rfl), (GrowK.cast g14 (by rw [head32 hbl, ← chunks_succ])), s0, s1, s2, s3, s8, s9, rfl, s12, hm17⟩, (by show sllen (subv bv 32 (bq.length : Int)) < sllen _; rw [z10, gbb.sllen, Grow.sllen (Grow.cast (l' := (bq.drop (32 : Int).toNat).take (((bq.length : Int) : Int).toNat - (32 : Int).toNat)) (Grow.sub (i := 32) (j := (bq.length : Int)) gbb oM sD sD) rfl)]; simp; omega)⟩
     · -- false
       have hc12p := of_decide_eq_false hc12
       refine cw_exit ?_
       refine kThen_exit (kThen_exit (kBlk_hit ?_))
       refine cw_seq ?_
       have hbn : bq.length = 32 * manyK n - 32 * j := by rw [hbl, List.length_drop, hXl]
       have hjn : j = manyK n := by omega
       refine cw_region <| rM rfl s8 <| rM rfl s9 <| rA rfl (v := sk) rfl <| rw_q rfl (ev_assign (v := (i64 (errP ((if 8160 < n then 8160 else n) * 32)))) rfl) ?_
       refine rN (cw_ret ?_)
       refine fnPost_ret [sk, (i64 (errP ((if 8160 < n then 8160 else n) * 32)))] ⟨rfl, rfl, trivial⟩ ?_
       have hm18 := Mem.drop Hb _ hm11
       exact ⟨sk, Hk, by rw [← hek.2]; rfl, by unfold keysQ; rw [← hX, ← hjn]; exact gkk, by simpa using hm18⟩


end Go.Proofs.YtmiagmbgfhakgaaDoor

