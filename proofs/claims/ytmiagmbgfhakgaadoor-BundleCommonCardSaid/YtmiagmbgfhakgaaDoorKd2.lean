/- Contracts: kdf, second part. Conditions: none beyond those that each theorem states. -/
import Derived.Test.YtmiagmbgfhakgaaDoorKd1
namespace Go.Proofs.YtmiagmbgfhakgaaDoor
set_option linter.unusedVariables false
set_option linter.unusedSimpArgs false

def chunksP (m : Nat) (L : List (BitVec 8)) : List (List (BitVec 8)) := (List.range m).map fun i => (L.drop (32 * i)).take 32
theorem chunks_succ (m : Nat) (L : List (BitVec 8)) : chunksP (m + 1) L = chunksP m L ++ [(L.drop (32 * m)).take 32] := by unfold chunksP; rw [List.range_succ, List.map_append]; rfl
@[simp] theorem chunksP_length (m : Nat) (L : List (BitVec 8)) : (chunksP m L).length = m := by simp [chunksP]
def badK (n : Int) : Bool := decide (n < 0) || decide (255 < n)
def errK (n : Int) : Int := if badK n then 2 else 0
def manyK (n : Int) : Nat := if badK n then 0 else n.toNat
theorem manyK_le (n : Int) : manyK n ≤ 255 := by
  unfold manyK badK; split
  · omega
  · rename_i h; simp at h; omega
def keysQ (salt secret purpose : List (BitVec 8)) (n : Int) : List (List (BitVec 8)) := chunksP (manyK n) (expandP (extractP salt secret) purpose (32 * manyK n))
theorem expand_keys {key info : List (BitVec 8)} {n : Int} (h : 0 ≤ n) : expandQ key info ((if 8160 < n then 8160 else n) * 32) = expandP key info (32 * manyK n) ∧ errP ((if 8160 < n then 8160 else n) * 32) = errK n := by
  by_cases hb : 255 < n
  · have h1 : badK n = true := by simp [badK, hb]
    have h2 : badN ((if 8160 < n then 8160 else n) * 32) = true := by
      unfold badN; split <;> simp <;> omega
    unfold expandQ errP errK manyK
    rw [h1, h2]
    simp [expandP, outK]
  · have h1 : badK n = false := by simp [badK]; omega
    have h3 : (if 8160 < n then 8160 else n) = n := if_neg oM
    have h2 : badN (n * 32) = false := by unfold badN; simp; omega
    unfold expandQ errP errK manyK
    rw [h3, h1, h2]
    have e : (n * 32).toNat = 32 * n.toNat := by omega
    simp [e]
theorem tail32 {X bl : List (BitVec 8)} {j : Nat} (h : bl = X.drop (32 * j)) : (bl.drop (32 : Int).toNat).take ((bl.length : Int).toNat - (32 : Int).toNat) = X.drop (32 * (j + 1)) := by
  subst h
  have e : (32 : Int).toNat = 32 := rfl
  rw [e, List.take_of_length_le (by simp; omega), List.drop_drop]; congr 1
theorem head32 {X bl : List (BitVec 8)} {j : Nat} (h : bl = X.drop (32 * j)) : ((bl.drop 0).take 32).take 32 = (X.drop (32 * j)).take 32 := by
  subst h; rw [List.drop_zero, List.take_take]; rfl
attribute [local irreducible] hmacP tK outK expandP extractP
set_option maxHeartbeats 1000000 in
theorem c_keys (va : Value) (la : List (BitVec 8)) (vb : Value) (lb : List (BitVec 8)) (pu : ByteArray) (n : Int) (w0 : World)  (hT : Tabs (blks w0)) (hra : Rd (blks w0) u8 va la) (hla : la.length ≤ 1048576) (hrb : Rd (blks w0) u8 vb lb) (hlb : lb.length ≤ 1048576) (hpu : pu.size ≤ 1048576) (hnr : -9223372036854775808 ≤ n ∧ n ≤ 9223372036854775807) : CallsR Tryd.prog 39 #[va, vb, (Value.string pu), (i64 n)] w0 (fun r w1 => ∃ v Hs, r = Value.tuple #[v, i64 (errK n)] ∧ GrowK (encA u8) 32 23 v (keysQ la lb (bytesL pu) n) Hs ∧ Mem w1 (restOf w0) Hs) := by
 refine callsR_of_cw (args := [va, vb, (Value.string pu), (i64 n)]) Tryd.func39 rfl Tryd.ntmps39 Tryd.results39 rfl ?_
 have hm0 : Mem w0 (restOf w0) [] := Mem.of_world w0
 refine sR <| rw_q rfl (ev_assign (v := (Value.slice none 0 0)) rfl) <| rw_q rfl (ev_assign (v := (i64 0)) rfl) ?_
 refine rN (cw_seq (sR ?_))
 refine rw_q rfl (ev_move (v := (i64 n)) rfl) <| rw_q rfl (ev_i64_lss (b := 0) rfl rfl) <| rN ?_
 refine cw_cond rfl (fun hc1 => ?_) (fun hc1 => ?_)
 · -- true
   have hc1p := of_decide_eq_true hc1
   refine sR <| rw_q rfl (ev_assign (v := (Value.slice none 0 0)) rfl) <| rw_q rfl (ev_assign (v := (i64 2)) rfl) ?_
   refine rN (cw_ret (kThen_ret ?_))
   refine fnPost_ret [(Value.slice none 0 0), (i64 2)] ⟨rfl, rfl, trivial⟩ ?_
   have hbad : badK n = true := by simp [badK]; omega
   exact ⟨Value.slice none 0 0, [], by unfold errK; rw [if_pos hbad]; rfl, by unfold keysQ manyK; rw [if_pos hbad]; exact GrowK.none _ _ _, hm0⟩
 · -- false
   have hc1p := of_decide_eq_false hc1
   refine cw_skip (kThen_normal (sR ?_))
   refine rM rfl (v := va) rfl <| rM rfl (v := vb) rfl <| rw_c rfl (opR_call Tryd.func60 bd60 nm60 (args2 rfl rfl) (c_extract va la vb lb _ (hT.mono fun b o e => (hm0).rest b o e) (Rd.ofRest hra hm0) sD (Rd.ofRest hrb hm0) sD)) ?_
   rintro _ w2 ⟨rfl, _ew2⟩
   have hm2 := hm0.ext _ew2
   refine rw_q rfl (ev_move (v := (Value.string pu)) rfl) <| rw_c rfl (or_conv_str (s := pu) hm2 uT9 uT26 uT5 rfl sD) ?_
   rintro _ w4 ⟨b18, cap4, cc4, fz4, rfl, _ew4, hm4, hcv4⟩
   have hm4 : Mem w4 (restOf w0) [(b18, .cells cc4 5 fz4)] := hm4
   refine rw_q rfl (ev_move (v := (i64 n)) rfl) <| rw_q (v := (i64 (if 8160 < n then 8160 else n))) rfl (ev_min_i64 (j := 8160) rfl rfl) <| rw_q rfl (ev_i64_mul (b := 32) rfl rfl oM oM) <| rw_c rfl (opR_call Tryd.func59 bd59 nm59 (args3 rfl rfl rfl) (c_expand (extractP la lb) (slc b18 0 pu.size cap4) (bytesL pu) ((if 8160 < n then 8160 else n) * 32) _ (hT.mono fun b o e => (hm4).rest b o e) sD (hcv4 _ hm4.h0) sD)) ?_
   rintro _ w5 ⟨vxq6, Hsq6, rfl, gvxq6, k_w5⟩
   have hm5 : Mem w5 (restOf w0) (Hsq6 ++ ([(b18, .cells cc4 5 fz4)])) := Mem.new (H := [(b18, .cells cc4 5 fz4)]) (H' := Hsq6) hm4 k_w5
   obtain ⟨X, hX⟩ : ∃ X, X = expandP (extractP la lb) (bytesL pu) (32 * manyK n) := ⟨_, rfl⟩
   have hXl : X.length = 32 * manyK n := by rw [hX, expandP_length]
   have hmk := manyK_le n
   have hek := expand_keys (key := extractP la lb) (info := bytesL pu) (n := n) oM
   have gX7 := gvxq6
   rw [hek.1, ← hX] at gX7
   refine rw_q rfl (ev_move (v := (Value.tuple #[vxq6, (i64 (errP ((if 8160 < n then 8160 else n) * 32)))])) rfl) <| rw_q (v := vxq6) rfl (ev_extract rfl rfl) <| rw_q (v := (i64 (errP ((if 8160 < n then 8160 else n) * 32)))) rfl (ev_extract rfl rfl) <| rA rfl (v := vxq6) rfl <| rw_q rfl (ev_assign (v := (i64 (errP ((if 8160 < n then 8160 else n) * 32)))) rfl) <| rN ?_
   refine CW.abs (fun g => g 0 = va ∧ g 1 = vb ∧ g 2 = (Value.string pu) ∧ g 3 = (i64 n) ∧ g 8 = (Value.slice none 0 0) ∧ g 9 = (i64 (errP ((if 8160 < n then 8160 else n) * 32))) ∧ g 10 = vxq6 ∧ g 12 = (bl (decide (n < 0))) ∧ True) ⟨rfl, rfl, rfl, rfl, rfl, rfl, rfl, rfl, trivial⟩ ?_
   rintro fr8 ⟨s0, s1, s2, s3, s8, s9, s10, s12, _⟩
   refine cw_seq (cw_block ?_)
   refine cw_loop (fun g wv => ∃ (j : Nat) (bq : List (BitVec 8)) (bv : Value) (Hb : List (Nat × Obj)) (sk : Value) (Hk : List (Nat × Obj)), (j ≤ manyK n) ∧ (bq = X.drop (32 * j)) ∧ (Grow u8 5 bv bq Hb) ∧ (GrowK (encA u8) 32 23 sk (chunksP j X) Hk) ∧ g 0 = va ∧ g 1 = vb ∧ g 2 = (Value.string pu) ∧ g 3 = (i64 n) ∧ g 8 = sk ∧ g 9 = (i64 (errP ((if 8160 < n then 8160 else n) * 32))) ∧ g 10 = bv ∧ g 12 = (bl (decide (n < 0))) ∧ Mem wv (restOf w0) (Hb ++ (Hk ++ ([])))) (fun g wv => sllen (g 10)) ?_ ?_
   have hm9 := Mem.drop ([(b18, .cells cc4 5 fz4)]) _ (Mem.pick Hsq6 [_] _ hm5)
   · exact ⟨0, X, vxq6, Hsq6, (Value.slice none 0 0), [], (Nat.zero_le _), (by simp), gX7, (GrowK.none (encA u8) 32 23), s0, s1, s2, s3, s8, s9, s10, s12, hm9⟩
   · rintro fr10 w11 ⟨j, bq, bv, Hb, sk, Hk, hj, hbl, gbb, gkk, s0, s1, s2, s3, s8, s9, s10, s12, hm11⟩
     have z10 := s10
     have z8 := s8
     have hbn : bq.length = 32 * manyK n - 32 * j := by rw [hbl, List.length_drop, hXl]
     refine cw_seq (sR ?_)
     refine rM rfl s10 <| rw_q (v := (i64 (bq.length : Int))) rfl (ev_len_rd (gbb.rd hm11) uT26 rfl) <| rw_q rfl (ev_i64_gtr (b := 0) rfl rfl) <| rN ?_
     refine cw_cond rfl (fun hc12 => ?_) (fun hc12 => ?_)
     · -- true
       have hc12p := of_decide_eq_true hc12
       refine cw_skip (kThen_normal (cw_block' (sR ?_)))
       refine rM rfl s8 <| rM rfl s10 <| rw_q rfl (ev_slice_rd (i := 0) (j := 32) (gbb.rd hm11) uT26 ti5 rfl (optI_none _ _) (optI_some (k := .i64) (i := 32) rfl) oM sD sD) <| rw_q rfl (ev_sap ((Grow.cast (l' := (bq.drop 0).take 32) (Grow.sub (i := 0) (j := 32) gbb oM sD sD) rfl).rd hm11) uT23 rfl sD) <| rw_q (v := (agg u8 (((bq.drop 0).take 32).take 32))) rfl (ev_load_sap (l := (bq.drop 0).take 32) ((Grow.cast (l' := (bq.drop 0).take 32) (Grow.sub (i := 0) (j := 32) gbb oM sD sD) rfl).rd hm11) uT23 ti23 rfl sD rfl) <| rw_c rfl (or_buildSlice_k1 (cs := (cl u8 (((bq.drop 0).take 32).take 32))) hm11 uT57 ti23 rfl rfl rfl sZ) ?_
       rintro _ w13 ⟨b33, rfl, _ew13, hm13⟩
       have hm13 : Mem w13 (restOf w0) ([(b33, .cells (cl u8 (((bq.drop 0).take 32).take 32)) 23 (0, 0))] ++ (Hb ++ (Hk ++ ([])))) := hm13
       refine rw_c rfl (or_appendK (enc := (encA u8)) (k := 32) (Hs := Hk) (H := [(b33, .cells (cl u8 (((bq.drop 0).take 32).take 32)) 23 (0, 0))] ++ (Hb ++ ([]))) (Mem.pick2 [_] Hb Hk _ hm13) gkk rfl rfl (RdK.ofOne (enc := (encA u8)) (k := 32) (a := (((bq.drop 0).take 32).take 32)) hm13.h0 rfl (by simp only [encA, List.length_map]; first | omega | (simp; done) | (simp; omega) | decide)) uT57 uT57 ti23 rfl rfl (fun _ _ => encA_one u8_one _) sD sD) ?_
       rintro sv14 w14 ⟨Hs14, hm14, g14⟩
       replace g14 : GrowK (encA u8) 32 23 sv14 ((chunksP j X) ++ ([((bq.drop 0).take 32).take 32])) Hs14 := g14
       refine rA rfl (v := sv14) rfl <| rN ?_
       have hm15 := Mem.drop ([(b33, .cells (cl u8 (((bq.drop 0).take 32).take 32)) 23 (0, 0))]) _ (Mem.pick Hs14 [_] _ hm14)
       refine CW.abs (fun g => g 0 = va ∧ g 1 = vb ∧ g 2 = (Value.string pu) ∧ g 3 = (i64 n) ∧ g 8 = sv14 ∧ g 9 = (i64 (errP ((if 8160 < n then 8160 else n) * 32))) ∧ g 10 = bv ∧ g 12 = (bl (decide (n < 0))) ∧ g 27 = (bl (decide (0 < (bq.length : Int)))) ∧ True) ⟨s0, s1, s2, s3, rfl, s9, s10, s12, rfl, trivial⟩ ?_
       rintro fr16 ⟨s0, s1, s2, s3, s8, s9, s10, s12, s27, _⟩
       refine cw_region <| rM rfl s10 <| rw_q rfl (ev_slice_rd (i := 32) (j := (bq.length : Int)) (gbb.rd (Mem.pick Hs14 Hb _ hm15)) uT26 ti5 rfl (optI_some (k := .i64) (i := 32) rfl) (optI_none _ _) oM sD sD) <| rw_q rfl (ev_assign (v := (subv bv 32 (bq.length : Int))) rfl) ?_
       refine rw_nil (kBlk_normal (kThen_normal ?_))
       have hm17 := (Mem.pick Hs14 Hb _ hm15)
       exact ⟨⟨j + 1, ((bq.drop (32 : Int).toNat).take (((bq.length : Int) : Int).toNat - (32 : Int).toNat)), (subv bv 32 (bq.length : Int)), Hb, sv14, Hs14, oM, (tail32 hbl), (Grow.cast (l' := (bq.drop (32 : Int).toNat).take (((bq.length : Int) : Int).toNat - (32 : Int).toNat)) (Grow.sub (i := 32) (j := (bq.length : Int)) gbb oM sD sD) rfl), (GrowK.cast g14 (by rw [head32 hbl, ← chunks_succ])), s0, s1, s2, s3, s8, s9, rfl, s12, hm17⟩, (by show sllen (subv bv 32 (bq.length : Int)) < sllen _; rw [z10, gbb.sllen, Grow.sllen (Grow.cast (l' := (bq.drop (32 : Int).toNat).take (((bq.length : Int) : Int).toNat - (32 : Int).toNat)) (Grow.sub (i := 32) (j := (bq.length : Int)) gbb oM sD sD) rfl)]; simp; omega)⟩
     · -- false
       have hc12p := of_decide_eq_false hc12
       refine cw_exit ?_
       refine kThen_exit (kThen_exit (kBlk_hit ?_))
       refine cw_seq ?_
       have hbn : bq.length = 32 * manyK n - 32 * j := by rw [hbl, List.length_drop, hXl]
       have hjn : j = manyK n := by omega
       refine cw_region <| rM rfl s8 <| rM rfl s9 <| rA rfl (v := sk) rfl <| rw_q rfl (ev_assign (v := (i64 (errP ((if 8160 < n then 8160 else n) * 32)))) rfl) ?_
       refine rN (cw_ret ?_)
       refine fnPost_ret [sk, (i64 (errP ((if 8160 < n then 8160 else n) * 32)))] ⟨rfl, rfl, trivial⟩ ?_
       have hm18 := Mem.drop Hb _ hm11
       exact ⟨sk, Hk, by rw [← hek.2]; rfl, by unfold keysQ; rw [← hX, ← hjn]; exact gkk, by simpa using hm18⟩


end Go.Proofs.YtmiagmbgfhakgaaDoor

