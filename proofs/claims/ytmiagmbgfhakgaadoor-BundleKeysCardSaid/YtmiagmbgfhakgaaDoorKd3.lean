/- Contracts: kdf, third part. Conditions: none beyond those that each theorem states. -/
import Derived.Test.YtmiagmbgfhakgaaDoorKd2
namespace Go.Proofs.YtmiagmbgfhakgaaDoor
set_option linter.unusedVariables false
set_option linter.unusedSimpArgs false

@[simp] theorem filled_len {α : Type} (g : Nat → α) (z : α) (n k : Nat) : (filled g z n k).length = k + (n - k) := by simp [filled]
theorem chunk_read (X : List (BitVec 8)) (i : Nat) (h : 32 * i + 32 ≤ X.length) : filled (fun j => X.getD (32 * (i : Int) + (j : Int)).toNat 0) 0 32 32 = (X.drop (32 * i)).take 32 := by
  rw [filled_all]
  refine List.ext_getElem (by simp; omega) fun j h1 h2 => ?_
  simp only [List.length_map, List.length_range] at h1
  have e : (32 * (i : Int) + (j : Int)).toNat = 32 * i + j := by omega
  simp [e, List.getD_eq_getElem?_getD]
  rw [List.getElem?_eq_getElem oM]; rfl
attribute [local irreducible] hmacP tK outK expandP extractP keysQ expandQ errK errP
set_option maxHeartbeats 1000000 in
theorem c_rkeys (va : Value) (la : List (BitVec 8)) (vb : Value) (lb : List (BitVec 8)) (pu : ByteArray) (n : Int) (w0 : World)  (hra : Rd (blks w0) u8 va la) (hla : la.length ≤ 1048576) (hrb : Rd (blks w0) u8 vb lb) (hlb : lb.length ≤ 1048576) (hpu : pu.size ≤ 1048576) (hn : 0 ≤ n ∧ n ≤ 255) : CallsR Tryd.prog 29 #[va, vb, (Value.string pu), (i64 n)] w0 (fun r w1 => ∃ Hs, GrowK (encA u8) 32 23 r (chunksP n.toNat (expandP (extractP la lb) (bytesL pu) (32 * n.toNat))) Hs ∧ Mem w1 (restOf w0) Hs) := by
 refine callsR_of_cw (args := [va, vb, (Value.string pu), (i64 n)]) Tryd.func29 rfl Tryd.ntmps29 Tryd.results29 rfl ?_
 have hm0 : Mem w0 (restOf w0) [] := Mem.of_world w0
 refine sR ?_
 refine rw_q rfl (ev_assign (v := (Value.slice none 0 0)) rfl) ?_
 refine rN (sR ?_)
 refine rM rfl (v := va) rfl <| rM rfl (v := vb) rfl <| rw_c rfl (opR_call Tryd.func47 bd47 nm47 (args2 rfl rfl) (c_rextract va la vb lb _ (Rd.ofRest hra hm0) sD (Rd.ofRest hrb hm0) sD)) ?_
 rintro _ w1 ⟨rfl, _ew1⟩
 have hm1 := hm0.ext _ew1
 refine rw_q rfl (ev_move (v := (Value.string pu)) rfl) <| rw_c rfl (or_conv_str (s := pu) hm1 uT9 uT26 uT5 rfl sD) ?_
 rintro _ w3 ⟨b18, cap3, cc3, fz3, rfl, _ew3, hm3, hcv3⟩
 have hm3 : Mem w3 (restOf w0) [(b18, .cells cc3 5 fz3)] := hm3
 refine rw_q rfl (ev_move (v := (i64 n)) rfl) <| rw_q rfl (ev_i64_mul (a := 32) rfl rfl oM oM) <| rw_c rfl (opR_call Tryd.func46 bd46 nm46 (args3 rfl rfl rfl) (c_rexpand (extractP la lb) (slc b18 0 pu.size cap3) (bytesL pu) (32 * n) _ sD (hcv3 _ hm3.h0) sD sD)) ?_
 rintro rxq5 w4 ⟨Hsq5, grxq5, k_w4⟩
 have hm4 : Mem w4 (restOf w0) (Hsq5 ++ ([(b18, .cells cc3 5 fz3)])) := Mem.new (H := [(b18, .cells cc3 5 fz3)]) (H' := Hsq5) hm3 k_w4
 obtain ⟨X, hX⟩ : ∃ X, X = expandP (extractP la lb) (bytesL pu) (32 * n.toNat) := ⟨_, rfl⟩
 have hXl : X.length = 32 * n.toNat := by rw [hX, expandP_length]
 have e32 : (32 * n).toNat = 32 * n.toNat := by omega
 have gX6 := grxq5
 rw [e32, ← hX] at gX6
 refine rA rfl (v := rxq5) rfl ?_
 refine rN (sR ?_)
 refine rw_c rfl (or_buildSlice_p (c := #[]) hm4 uT57 ti23 rfl pm_nil (by kernel_rfl)) ?_
 rintro _ w7 ⟨b22, rfl, _ew7, hm7⟩
 have hm7 : Mem w7 (restOf w0) ([(b22, .cells #[] 23 (0, 0))] ++ (Hsq5 ++ ([(b18, .cells cc3 5 fz3)]))) := hm7
 refine rw_q rfl (ev_assign (v := (slc b22 0 0 0)) rfl) ?_
 refine rN ?_
 refine CW.abs (fun g => g 0 = va ∧ g 1 = vb ∧ g 2 = (Value.string pu) ∧ g 3 = (i64 n) ∧ g 8 = (Value.slice none 0 0) ∧ g 9 = rxq5 ∧ g 10 = (slc b22 0 0 0) ∧ True) ⟨rfl, rfl, rfl, rfl, rfl, rfl, rfl, trivial⟩ ?_
 rintro fr8 ⟨s0, s1, s2, s3, s8, s9, s10, _⟩
 refine cw_seq (sR ?_)
 refine rw_q rfl (ev_assign (v := (i64 0)) rfl) ?_
 refine rN (cw_block ?_)
 refine cw_loop (fun g wv => ∃ (i : Nat) (sk : Value) (Hk : List (Nat × Obj)), ((i : Int) ≤ n) ∧ (GrowK (encA u8) 32 23 sk (chunksP i X) Hk) ∧ g 0 = va ∧ g 1 = vb ∧ g 2 = (Value.string pu) ∧ g 3 = (i64 n) ∧ g 8 = (Value.slice none 0 0) ∧ g 9 = rxq5 ∧ g 10 = sk ∧ g 11 = (i64 (i : Int)) ∧ Mem wv (restOf w0) (Hk ++ (Hsq5 ++ ([])))) (fun g wv => (n - RowKit.intOf (g 11)).toNat) ?_ ?_
 have hm9 := Mem.drop ([(b18, .cells cc3 5 fz3)]) _ (Mem.pick2 [_] Hsq5 [_] _ hm7)
 · exact ⟨0, (slc b22 0 0 0), [(b22, .cells #[] 23 (0, 0))], oM, (GrowK.of (encA u8) 32 23 b22 [] rfl (by simp)), s0, s1, s2, s3, s8, s9, s10, rfl, hm9⟩
 · rintro fr10 w11 ⟨i, sk, Hk, hi, gkk, s0, s1, s2, s3, s8, s9, s10, s11, hm11⟩
   have z11 := s11
   have z10 := s10
   refine cw_seq (sR ?_)
   refine rM rfl s11 <| rM rfl s3 <| rw_q rfl (ev_i64_lss rfl rfl) ?_
   refine rN ?_
   refine cw_cond rfl (fun hc12 => ?_) (fun hc12 => ?_)
   · -- true
     have hc12p := of_decide_eq_true hc12
     refine cw_skip (kThen_normal (cw_seq (cw_block (sR ?_))))
     refine rw_q rfl (ev_build_arr (ps := []) (c := (cl u8 (List.replicate 32 0))) ti23 uT23 ti5 (by simp) rfl) <| rw_c rfl (or_alloc_agg hm11 ti23) ?_
     rintro _ w13 ⟨b12, rfl, _ew13, hm13⟩
     refine rw_n (or_store_agg (f := u8) (l := List.replicate 32 0) u8_one ti23 rfl rfl sD hm13.h0 sZ rfl) ?_
     rintro _ w14 uq14
     have hm14 := hm13.upd0 uq14
     refine rN (cw_seq (sR ?_))
     refine rw_q rfl (ev_assign (v := (i64 0)) rfl) ?_
     refine rN (cw_block ?_)
     refine cw_loop (fun g wv => ∃ (j : Nat), (j ≤ 32) ∧ g 0 = va ∧ g 1 = vb ∧ g 2 = (Value.string pu) ∧ g 3 = (i64 n) ∧ g 8 = (Value.slice none 0 0) ∧ g 9 = rxq5 ∧ g 10 = sk ∧ g 11 = (i64 (i : Int)) ∧ g 12 = (ptr b12 0) ∧ g 13 = (i64 (j : Int)) ∧ g 25 = (bl (decide ((i : Int) < n))) ∧ Mem wv (restOf w0) ([(b12, .cells (cl u8 (filled (fun q => X.getD (32 * (i : Int) + (q : Int)).toNat 0) 0 32 j)) 23 (0, 0))] ++ (Hk ++ (Hsq5 ++ ([]))))) (fun g wv => (32 - RowKit.intOf (g 13)).toNat) ?_ ?_
     · exact ⟨0, oM, s0, s1, s2, s3, s8, s9, s10, s11, rfl, rfl, rfl, (by rw [filled_zero]; exact hm14)⟩
     · rintro fr15 w16 ⟨j, hj, s0, s1, s2, s3, s8, s9, s10, s11, s12, s13, s25, hm16⟩
       have z13 := s13
       refine cw_seq (sR ?_)
       refine rM rfl s13 <| rw_q rfl (ev_i64_lss (b := 32) rfl rfl) ?_
       refine rN ?_
       refine cw_cond rfl (fun hc17 => ?_) (fun hc17 => ?_)
       · -- true
         have hc17p := of_decide_eq_true hc17
         refine cw_skip (kThen_normal (cw_seq (cw_block (cw_region ?_))))
         refine rM rfl s13 <| rM rfl s9 <| rM rfl s11 <| rw_q rfl (ev_i64_mul (a := 32) rfl rfl oM oM) <| rM rfl s13 <| rw_q rfl (ev_i64_add rfl rfl oM oM) ?_
         refine rw_q rfl (ev_indexAddr_rdv (gX6.rd (Mem.pick2 [_] Hk Hsq5 _ hm16)) uT26 ti5 rfl rfl oM sD) <| rw_q (v := (u8 (X.getD (((32 * (i : Int)) + (j : Int) : Int).toNat) 0))) rfl (ev_load_rdD (l := X) (i := (32 * (i : Int)) + (j : Int)) (dflt := 0) (gX6.rd (Mem.pick2 [_] Hk Hsq5 _ hm16)) uT5 rfl oM sD rfl) <| rw_q rfl (ev_ia_arr (r := j) oM uT23 ti5 s12 rfl oM sD) <| rw_n (or_store_cl (f := u8) (a := X.getD (((32 * (i : Int)) + (j : Int) : Int).toNat) 0) u8_one ti5 rfl rfl hm16.h0 sD (.inl (Nat.zero_le _))) ?_
         rintro _ w18 uq18
         have hm18 := hm16.upd0 uq18
         refine rw_nil (kBlk_normal ?_)
         refine CW.abs (fun g => g 0 = va ∧ g 1 = vb ∧ g 2 = (Value.string pu) ∧ g 3 = (i64 n) ∧ g 8 = (Value.slice none 0 0) ∧ g 9 = rxq5 ∧ g 10 = sk ∧ g 11 = (i64 (i : Int)) ∧ g 12 = (ptr b12 0) ∧ g 13 = (i64 (j : Int)) ∧ g 25 = (bl (decide ((i : Int) < n))) ∧ g 30 = (bl (decide ((j : Int) < 32))) ∧ True) ⟨s0, s1, s2, s3, s8, s9, s10, s11, s12, s13, s25, rfl, trivial⟩ ?_
         rintro fr19 ⟨s0, s1, s2, s3, s8, s9, s10, s11, s12, s13, s25, s30, _⟩
         refine cw_region <| rM rfl s13 <| rw_q rfl (ev_i64_add (b := 1) rfl rfl oM oM) <| rw_q rfl (ev_assign (v := (i64 ((j : Int) + 1))) rfl) ?_
         refine rN ?_
         exact ⟨⟨j + 1, oM, s0, s1, s2, s3, s8, s9, s10, s11, s12, rfl, s25, (by rw [← filled_set (fun q => X.getD (32 * (i : Int) + (q : Int)).toNat 0) 0 (n := 32) (k := j) oM _ rfl]; exact hm18)⟩, meas rfl z13 oM oM⟩
       · -- false
         have hc17p := of_decide_eq_false hc17
         obtain rfl : j = 32 := by omega
         refine cw_exit ?_
         refine kThen_exit (kThen_exit (kBlk_hit ?_))
         refine cw_region <| rM rfl s10 <| rw_q (v := (agg u8 (filled (fun q => X.getD (32 * (i : Int) + (q : Int)).toNat 0) 0 32 32))) rfl (ev_loadA uT23 rfl ti23 s12 hm16.h0 sZ) <| rw_c rfl (or_buildSlice_k1 (cs := (cl u8 (filled (fun q => X.getD (32 * (i : Int) + (q : Int)).toNat 0) 0 32 32))) hm16 uT57 ti23 rfl rfl rfl sZ) ?_
         rintro _ w20 ⟨b44, rfl, _ew20, hm20⟩
         have hm20 : Mem w20 (restOf w0) ([(b44, .cells (cl u8 (filled (fun q => X.getD (32 * (i : Int) + (q : Int)).toNat 0) 0 32 32)) 23 (0, 0)), (b12, .cells (cl u8 (filled (fun q => X.getD (32 * (i : Int) + (q : Int)).toNat 0) 0 32 32)) 23 (0, 0))] ++ (Hk ++ (Hsq5 ++ ([])))) := hm20
         refine rw_c rfl (or_appendK (enc := (encA u8)) (k := 32) (Hs := Hk) (H := [(b44, .cells (cl u8 (filled (fun q => X.getD (32 * (i : Int) + (q : Int)).toNat 0) 0 32 32)) 23 (0, 0)), (b12, .cells (cl u8 (filled (fun q => X.getD (32 * (i : Int) + (q : Int)).toNat 0) 0 32 32)) 23 (0, 0))] ++ (Hsq5 ++ ([]))) (Mem.pick [_, _] Hk _ hm20) gkk rfl rfl (RdK.ofOne (enc := (encA u8)) (k := 32) (a := (filled (fun q => X.getD (32 * (i : Int) + (q : Int)).toNat 0) 0 32 32)) hm20.h0 rfl (by simp only [encA, List.length_map]; first | omega | (simp; done) | (simp; omega) | decide)) uT57 uT57 ti23 rfl rfl (fun _ _ => encA_one u8_one _) sD sD) ?_
         rintro sv21 w21 ⟨Hs21, hm21, g21⟩
         replace g21 : GrowK (encA u8) 32 23 sv21 ((chunksP i X) ++ ([filled (fun q => X.getD (32 * (i : Int) + (q : Int)).toNat 0) 0 32 32])) Hs21 := g21
         refine rA rfl (v := sv21) rfl ?_
         refine rw_nil (kBlk_normal (cw_region ?_))
         refine rM rfl s11 <| rw_q rfl (ev_i64_add (b := 1) rfl rfl oM oM) <| rw_q rfl (ev_assign (v := (i64 ((i : Int) + 1))) rfl) ?_
         refine rN ?_
         have hm22 := Mem.drop ([(b44, .cells (cl u8 (filled (fun q => X.getD (32 * (i : Int) + (q : Int)).toNat 0) 0 32 32)) 23 (0, 0))]) _ (Mem.pick Hs21 [_] _ hm21)
         have hm23 := Mem.drop ([(b12, .cells (cl u8 (filled (fun q => X.getD (32 * (i : Int) + (q : Int)).toNat 0) 0 32 32)) 23 (0, 0))]) _ (Mem.pick Hs21 [_] _ hm22)
         exact ⟨⟨i + 1, sv21, Hs21, oM, (GrowK.cast g21 (by rw [chunk_read X i oM, ← chunks_succ])), s0, s1, s2, s3, s8, s9, rfl, rfl, hm23⟩, meas rfl z11 oM oM⟩
   · -- false
     have hc12p := of_decide_eq_false hc12
     obtain rfl : i = n.toNat := by omega
     refine cw_exit ?_
     refine kThen_exit (kThen_exit (kBlk_hit ?_))
     refine sR ?_
     refine rM rfl s10 <| rA rfl (v := sk) rfl ?_
     refine rN (cw_ret ?_)
     refine fnPost_ret [sk] ⟨rfl, trivial⟩ ?_
     have hm24 := Mem.drop Hsq5 _ (Mem.pick Hk Hsq5 _ hm11)
     exact ⟨Hk, by rw [← hX]; exact gkk, by simpa using hm24⟩


end Go.Proofs.YtmiagmbgfhakgaaDoor

