/- The laws of the seal: their walks, and their plain laws. Conditions: none beyond those that each theorem states. -/
import Derived.Test.YtmiagmbgfhakgaaDoorSe2
import Derived.Test.YtmiagmbgfhakgaaDoorFwL
import Derived.Test.YtmiagmbgfhakgaaDoorFwQ
namespace Go.Proofs.YtmiagmbgfhakgaaDoor
set_option linter.unusedVariables false
set_option linter.unusedSimpArgs false

theorem front_close (c t : List (BitVec 8)) (h : t.length = 32) : frontP (c ++ t) = c := by
  unfold frontP; rw [List.length_append, h, Nat.add_sub_cancel]; exact List.take_left
theorem right_close (key nonce la p : List (BitVec 8)) : rightP key nonce la (closeP key nonce la p) = true := by
  unfold rightP closeP
  rw [front_close _ _ (tagP_length _ _ _ _), List.length_append, tagP_length, Nat.add_sub_cancel, List.drop_left]
  exact beq_self_eq_true _
theorem err_close (key nonce la p : List (BitVec 8)) : errO key nonce la (closeP key nonce la p) = 0 := by
  rw [errO_told (by rw [closeP_length]; omega) (right_close key nonce la p)]; rfl
theorem cipher_twice (key nonce p : List (BitVec 8)) : cipherP key nonce (cipherP key nonce p) = p := turn_turn _ _ _ _ _
theorem open_close (key nonce la p : List (BitVec 8)) : openQ key nonce la (closeP key nonce la p) = p := by
  rw [openQ_told (by rw [closeP_length]; omega) (right_close key nonce la p)]
  show cipherP key nonce (frontP (closeP key nonce la p)) = p
  unfold closeP
  rw [front_close _ _ (tagP_length _ _ _ _), cipher_twice]
theorem bad_tag {key nonce la p : List (BitVec 8)} {j : Nat} {e : BitVec 8} (h1 : p.length ≤ j) (h2 : j < p.length + 32) (he : e ≠ 0) : errO key nonce la ((closeP key nonce la p).set j ((closeP key nonce la p).getD j 0 ^^^ e)) = 10 := by
  have hl : ((closeP key nonce la p).set j ((closeP key nonce la p).getD j 0 ^^^ e)).length = p.length + 32 := by rw [List.length_set, closeP_length]
  have hr : rightP key nonce la ((closeP key nonce la p).set j ((closeP key nonce la p).getD j 0 ^^^ e)) = false := by
    unfold rightP frontP
    rw [hl, Nat.add_sub_cancel]
    have e1 : ((closeP key nonce la p).set j ((closeP key nonce la p).getD j 0 ^^^ e)).take p.length = cipherP key nonce p := by
      rw [List.take_set_of_le h1]
      unfold closeP
      rw [← cipherP_length key nonce p, List.take_left]
    rw [e1]
    refine beq_eq_false_iff_ne.2 fun hc => he ?_
    have e2 := congrArg (fun l : List (BitVec 8) => l.getD (j - p.length) 0) hc
    simp only [List.getD_eq_getElem?_getD, List.getElem?_drop, show p.length + (j - p.length) = j by omega] at e2
    rw [List.getElem?_set_self (by rw [closeP_length]; omega)] at e2
    have e3 : (closeP key nonce la p)[j]? = (tagP key nonce la (cipherP key nonce p))[j - p.length]? := by
      unfold closeP
      rw [List.getElem?_append_right (by rw [cipherP_length]; omega), cipherP_length]
    rw [e3] at e2
    simp only [Option.getD_some] at e2
    generalize (tagP key nonce la (cipherP key nonce p))[j - p.length]?.getD 0 = q at e2
    have e4 : q ^^^ q = q ^^^ (q ^^^ e) := congrArg (q ^^^ ·) e2
    rw [BitVec.xor_self, ← BitVec.xor_assoc, BitVec.xor_self, BitVec.zero_xor] at e4
    exact e4.symm
  rw [errO_told (by rw [hl]; omega) hr]; rfl
theorem shl_ne {t : Int} (h0 : 0 ≤ t) (h : t < 8) : (1#8 <<< t.toNat) ≠ 0 := by
  obtain ⟨n, rfl⟩ := Int.eq_ofNat_of_zero_le h0
  have : n = 0 ∨ n = 1 ∨ n = 2 ∨ n = 3 ∨ n = 4 ∨ n = 5 ∨ n = 6 ∨ n = 7 := by omega
  rcases this with rfl | rfl | rfl | rfl | rfl | rfl | rfl | rfl <;> decide
theorem nl3 : (closeP (List.replicate 32 0#8) (List.replicate 12 0#8) [] []).length = 32 := closeP_length _ _ _ _

theorem rem_nat {a b : Int} (h0 : 0 ≤ a) (hb : 0 < b) : ∃ q : Nat, a % b = (q : Int) ∧ (q : Int) < b := by
  have h1 := Int.emod_nonneg a (by omega : b ≠ 0)
  have h2 := Int.emod_lt_of_pos a hb
  exact ⟨(a % b).toNat, by omega, by omega⟩
attribute [local irreducible] hmacP tK outK expandP extractP keysQ expandQ errK errP turnP blockP blockR msgP closeP openQ errO cipherP tagP
set_option maxHeartbeats 1000000 in
theorem c_speaks04  (w0 : World)  (hT : Tabs (blks w0)) : CallsR Tryd.prog 10 #[] w0 (fun r w1 => r = (bl true) ∧ Ext w0 w1) := by
 refine callsR_of_cw (args := []) Tryd.func10 rfl Tryd.ntmps10 Tryd.results10 rfl ?_
 have hm0 : Mem w0 (restOf w0) [] := Mem.of_world w0
 refine cw_seq (cw_region ?_)
 refine rw_q rfl (ev_assign (v := (bl false)) rfl) ?_
 refine rw_nil (kThen_normal (cw_seq (cw_region ?_)))
 refine rw_q rfl (ev_build_arr (ps := []) (c := (cl u8 (List.replicate 32 0))) ti23 uT23 ti5 (by simp) rfl) <| rw_q rfl (ev_build_arr (ps := []) (c := (cl u8 (List.replicate 12 0))) ti25 uT25 ti5 (by simp) rfl) <| rw_c rfl (opR_call Tryd.func11 bd11 nm11 (args4 rfl rfl rfl rfl) (c_seal (List.replicate 32 0) (List.replicate 12 0) (Value.slice none 0 0) ([]) (Value.slice none 0 0) ([]) _ (hT.mono fun b o e => (hm0).rest b o e) sD sD (Rd.nil _ _) sD (Rd.nil _ _) sD)) ?_
 rintro rxq2 w1 ⟨Hsq2, grxq2, k_w1⟩
 have hm1 : Mem w1 (restOf w0) (Hsq2 ++ ([])) := Mem.new (H := []) (H' := Hsq2) hm0 k_w1
 refine rA rfl (v := rxq2) rfl ?_
 refine rw_nil (kThen_normal (cw_seq (cw_region ?_)))
 refine rw_q rfl (ev_build_arr (ps := []) (c := (cl u8 (List.replicate 32 0))) ti23 uT23 ti5 (by simp) rfl) <| rw_q rfl (ev_build_arr (ps := []) (c := (cl u8 (List.replicate 12 0))) ti25 uT25 ti5 (by simp) rfl) <| rM rfl (v := rxq2) rfl <| rw_c rfl (opR_call Tryd.func12 bd12 nm12 (args4 rfl rfl rfl rfl) (c_open (List.replicate 32 0) (List.replicate 12 0) (Value.slice none 0 0) ([]) rxq2 (closeP (List.replicate 32 0) (List.replicate 12 0) ([]) ([])) _ (hT.mono fun b o e => (hm1).rest b o e) sD sD (Rd.nil _ _) sD (grxq2.rd hm1) sD)) ?_
 rintro _ w3 ⟨vxq4, Hsq4, rfl, gvxq4, k_w3⟩
 have hm3 : Mem w3 (restOf w0) (Hsq4 ++ (Hsq2 ++ ([]))) := Mem.new (H := Hsq2 ++ ([])) (H' := Hsq4) hm1 k_w3
 refine rM rfl rfl <| rw_q (v := vxq4) rfl (ev_extract rfl rfl) <| rw_q (v := (i64 (errO (List.replicate 32 0) (List.replicate 12 0) ([]) (closeP (List.replicate 32 0) (List.replicate 12 0) ([]) ([]))))) rfl (ev_extract rfl rfl) <| rA rfl (v := vxq4) rfl <| rA rfl rfl ?_
 refine rw_nil (kThen_normal ?_)
 refine CW.abs (fun g => g 0 = (bl false) ∧ g 1 = rxq2 ∧ g 2 = vxq4 ∧ g 3 = (i64 (errO (List.replicate 32 0) (List.replicate 12 0) ([]) (closeP (List.replicate 32 0) (List.replicate 12 0) ([]) ([])))) ∧ True) ⟨rfl, rfl, rfl, rfl, trivial⟩ ?_
 rintro fr5 ⟨s0, s1, s2, s3, _⟩
 refine cw_seq (cw_seq (cw_region ?_))
 refine rM rfl s1 <| rw_q (v := (i64 ((closeP (List.replicate 32 0) (List.replicate 12 0) ([]) ([])).length : Int))) rfl (ev_len_rd (grxq2.rd (Mem.pick Hsq4 Hsq2 _ hm3)) uT26 rfl) <| rw_q rfl (ev_i64_neq (b := 32) rfl rfl) <| rM rfl rfl ?_
 have hd6 : (((closeP (List.replicate 32 0) (List.replicate 12 0) ([]) ([])).length : Int) != 32) = false := told_ne (by rw [closeP_length]; rfl)
 refine rw_gyq (s := 17) rfl rfl hd6 rfl (ev_move s3) <| rw_gyq (s := 17) rfl rfl hd6 rfl (ev_i64_neq (b := 0) rfl rfl) <| rw_q rfl (ev_pick_fk rfl hd6 rfl) <| rM rfl rfl ?_
 have hd7 : ((errO (List.replicate 32 0) (List.replicate 12 0) ([]) (closeP (List.replicate 32 0) (List.replicate 12 0) ([]) ([]))) != 0) = false := told_ne (err_close _ _ _ _)
 refine rw_gyq (s := 21) rfl rfl hd7 rfl (ev_move s2) <| rw_gyq (s := 21) rfl rfl hd7 rfl (ev_len_rd (gvxq4.rd hm3) uT26 rfl) <| rw_gyq (s := 21) rfl rfl hd7 rfl (ev_i64_neq (b := 0) rfl rfl) <| rw_q rfl (ev_pick_fk rfl hd7 rfl) ?_
 refine rw_nil (kThen_normal ?_)
 refine CW.abs (fun g => g 0 = (bl false) ∧ g 1 = rxq2 ∧ g 2 = vxq4 ∧ g 3 = (i64 (errO (List.replicate 32 0) (List.replicate 12 0) ([]) (closeP (List.replicate 32 0) (List.replicate 12 0) ([]) ([])))) ∧ g 25 = (bl (((openQ (List.replicate 32 0) (List.replicate 12 0) ([]) (closeP (List.replicate 32 0) (List.replicate 12 0) ([]) ([]))).length : Int) != 0)) ∧ True) ⟨s0, s1, s2, s3, rfl, trivial⟩ ?_
 rintro fr8 ⟨s0, s1, s2, s3, s25, _⟩
 have hd9 : (((openQ (List.replicate 32 0) (List.replicate 12 0) ([]) (closeP (List.replicate 32 0) (List.replicate 12 0) ([]) ([]))).length : Int) != 0) = false := told_ne (by rw [open_close]; rfl)
 refine cw_cond_f s25 hd9 ?_
 refine cw_skip (kThen_normal (cw_seq ?_))
 have hnl := nl3
 refine cw_region <| rM rfl s1 <| rw_q rfl (ev_indexAddr_rdv (i := 3) (grxq2.rd (Mem.pick Hsq4 Hsq2 _ hm3)) uT26 ti5 rfl rfl oM sD) <| rw_q (v := (u8 ((closeP (List.replicate 32 0) (List.replicate 12 0) ([]) ([])).getD 3 0))) rfl (ev_load_rdD (l := closeP (List.replicate 32 0) (List.replicate 12 0) ([]) ([])) (i := 3) (dflt := 0) (grxq2.rd (Mem.pick Hsq4 Hsq2 _ hm3)) uT5 rfl oM sD rfl) <| rw_q rfl (ev_u8_xor (b := 4#8) rfl rfl) <| rw_q rfl (ev_indexAddr_rdv (i := 3) (grxq2.rd (Mem.pick Hsq4 Hsq2 _ hm3)) uT26 ti5 rfl rfl oM sD) ?_
 refine rw_n (or_store_grow (Hs := Hsq2) (H := Hsq4 ++ ([])) (i := 3) (a := ((closeP (List.replicate 32 0) (List.replicate 12 0) ([]) ([])).getD 3 0) ^^^ 4#8) (Mem.pick Hsq4 Hsq2 _ hm3) grxq2 u8_one ti5 oM sD rfl rfl) ?_
 rintro _ w10 ⟨Hs10, hm10, g10⟩
 replace g10 : Grow u8 5 rxq2 ((closeP (List.replicate 32 0) (List.replicate 12 0) ([]) ([])).set 3 (((closeP (List.replicate 32 0) (List.replicate 12 0) ([]) ([])).getD 3 0) ^^^ 4#8)) Hs10 := g10
 refine rw_nil (kThen_normal (cw_seq ?_))
 have hnl := nl3
 refine cw_region <| rw_q rfl (ev_build_arr (ps := []) (c := (cl u8 (List.replicate 32 0))) ti23 uT23 ti5 (by simp) rfl) <| rw_q rfl (ev_build_arr (ps := []) (c := (cl u8 (List.replicate 12 0))) ti25 uT25 ti5 (by simp) rfl) <| rM rfl s1 <| rw_c rfl (opR_call Tryd.func12 bd12 nm12 (args4 rfl rfl rfl rfl) (c_open (List.replicate 32 0) (List.replicate 12 0) (Value.slice none 0 0) ([]) rxq2 ((closeP (List.replicate 32 0) (List.replicate 12 0) ([]) ([])).set 3 (((closeP (List.replicate 32 0) (List.replicate 12 0) ([]) ([])).getD 3 0) ^^^ 4#8)) _ (hT.mono fun b o e => (hm10).rest b o e) sD sD (Rd.nil _ _) sD (g10.rd hm10) sD)) ?_
 rintro _ w11 ⟨vxq12, Hsq12, rfl, gvxq12, k_w11⟩
 have hm11 : Mem w11 (restOf w0) (Hsq12 ++ (Hs10 ++ (Hsq4 ++ ([])))) := Mem.new (H := Hs10 ++ (Hsq4 ++ ([]))) (H' := Hsq12) hm10 k_w11
 refine rM rfl rfl <| rw_q (v := vxq12) rfl (ev_extract rfl rfl) <| rw_q (v := (i64 (errO (List.replicate 32 0) (List.replicate 12 0) ([]) ((closeP (List.replicate 32 0) (List.replicate 12 0) ([]) ([])).set 3 (((closeP (List.replicate 32 0) (List.replicate 12 0) ([]) ([])).getD 3 0) ^^^ 4#8))))) rfl (ev_extract rfl rfl) <| rA rfl rfl ?_
 refine rw_nil (kThen_normal ?_)
 have hm13 := Mem.drop Hsq12 _ hm11
 refine CW.abs (fun g => g 0 = (bl false) ∧ g 1 = rxq2 ∧ g 2 = vxq4 ∧ g 3 = (i64 (errO (List.replicate 32 0) (List.replicate 12 0) ([]) ((closeP (List.replicate 32 0) (List.replicate 12 0) ([]) ([])).set 3 (((closeP (List.replicate 32 0) (List.replicate 12 0) ([]) ([])).getD 3 0) ^^^ 4#8)))) ∧ g 25 = (bl (((openQ (List.replicate 32 0) (List.replicate 12 0) ([]) (closeP (List.replicate 32 0) (List.replicate 12 0) ([]) ([]))).length : Int) != 0)) ∧ True) ⟨s0, s1, s2, rfl, s25, trivial⟩ ?_
 rintro fr14 ⟨s0, s1, s2, s3, s25, _⟩
 refine cw_seq (cw_region ?_)
 refine rM rfl s3 <| rw_q rfl (ev_i64_eql (b := 10) rfl rfl) <| rM rfl rfl ?_
 have hd15 : ((errO (List.replicate 32 0) (List.replicate 12 0) ([]) ((closeP (List.replicate 32 0) (List.replicate 12 0) ([]) ([])).set 3 (((closeP (List.replicate 32 0) (List.replicate 12 0) ([]) ([])).getD 3 0) ^^^ 4#8))) == 10) = true := told_true (bad_tag (Nat.zero_le _) (by decide) (by decide))
 refine rw_gy (s := 40) rfl rfl hd15 rfl (or_buildSlice_cl u8 [1#8] u8_one hm13 uT26 ti5 rfl rfl rfl) ?_
 rintro _ w16 ⟨b41, rfl, _ew16, hm16⟩
 refine rw_gy (s := 40) rfl rfl hd15 rfl (or_buildSlice_cl u8 [1#8] u8_one hm16 uT26 ti5 rfl rfl rfl) ?_
 rintro _ w17 ⟨b42, rfl, _ew17, hm17⟩
 refine rw_gy (s := 40) rfl rfl hd15 rfl (opR_call Tryd.func18 bd18 nm18 (args2 rfl rfl) (c_ssame (slc b41 0 1 1) (slc b42 0 1 1) ([1#8]) ([1#8]) _ (Rd.mkA hm17.h1) (Rd.mkA hm17.h0) sD)) ?_
 rintro _ w18 ⟨rfl, _ew18⟩
 have hm18 := hm17.ext _ew18
 refine rw_q rfl (ev_pick_tk rfl hd15 rfl) <| rw_q rfl (ev_move (v := (bl (([1#8]) == ([1#8])))) rfl) ?_
 have hd20 : (([1#8]) == ([1#8])) = true := told_true rfl
 refine rw_gy (s := 45) rfl rfl hd20 rfl (or_buildSlice_cl u8 [1#8] u8_one hm18 uT26 ti5 rfl rfl rfl) ?_
 rintro _ w21 ⟨b46, rfl, _ew21, hm21⟩
 refine rw_gy (s := 45) rfl rfl hd20 rfl (opR_call Tryd.func18 bd18 nm18 (args2 rfl rfl) (c_ssame (slc b46 0 1 1) (Value.slice none 0 0) ([1#8]) ([]) _ (Rd.mkA hm21.h0) (Rd.nil _ _) sD)) ?_
 rintro _ w22 ⟨rfl, _ew22⟩
 have hm22 := hm21.ext _ew22
 refine rw_gyq (s := 45) rfl rfl hd20 rfl (ev_not rfl) <| rw_q rfl (ev_pick_tk rfl hd20 rfl) <| rw_q rfl (ev_assign (v := (bl (!(([1#8]) == ([]))))) rfl) ?_
 refine rw_nil (kThen_normal ?_)
 have hm24 := Mem.drop ([(b46, .cells (cl u8 ([1#8])) 5 (0, 0))]) _ hm22
 have hm25 := Mem.drop ([(b42, .cells (cl u8 ([1#8])) 5 (0, 0))]) _ hm24
 have hm26 := Mem.drop ([(b41, .cells (cl u8 ([1#8])) 5 (0, 0))]) _ hm25
 refine CW.abs (fun g => g 0 = (bl (!(([1#8]) == ([])))) ∧ g 1 = rxq2 ∧ g 2 = vxq4 ∧ g 3 = (i64 (errO (List.replicate 32 0) (List.replicate 12 0) ([]) ((closeP (List.replicate 32 0) (List.replicate 12 0) ([]) ([])).set 3 (((closeP (List.replicate 32 0) (List.replicate 12 0) ([]) ([])).getD 3 0) ^^^ 4#8)))) ∧ g 25 = (bl (((openQ (List.replicate 32 0) (List.replicate 12 0) ([]) (closeP (List.replicate 32 0) (List.replicate 12 0) ([]) ([]))).length : Int) != 0)) ∧ True) ⟨rfl, s1, s2, s3, s25, trivial⟩ ?_
 rintro fr27 ⟨s0, s1, s2, s3, s25, _⟩
 refine cw_ret <| fnPost_ret [(bl (!(([1#8]) == ([]))))] ⟨s0, trivial⟩ ?_
 exact ⟨congrArg bl (by decide), hm26.toExt⟩

set_option maxHeartbeats 2000000 in
theorem law_sback (key : List (BitVec 8)) (nonce : List (BitVec 8)) (va : Value) (la : List (BitVec 8)) (vc : Value) (lc : List (BitVec 8)) (bit : Int) (w0 : World)  (hT : Tabs (blks w0)) (hk : key.length = 32) (hn : nonce.length = 12) (hra : Rd (blks w0) u8 va la) (hlhra : la.length ≤ 9223372036854775807) (hrc : Rd (blks w0) u8 vc lc) (hlhrc : lc.length ≤ 9223372036854775807) (hbit : -9223372036854775808 ≤ bit ∧ bit ≤ 9223372036854775807) : CallsR Tryd.prog 4 #[(agg u8 key), (agg u8 nonce), va, vc, (i64 bit)] w0 (fun r w1 => r = bl true ∧ RowKit.Below w0.heap.size w0 w1) := by
 refine callsR_of_cw (args := [(agg u8 key), (agg u8 nonce), va, vc, (i64 bit)]) Tryd.func4 rfl Tryd.ntmps4 Tryd.results4 rfl ?_
 have hm0 : Mem w0 (restOf w0) [] := Mem.of_world w0
 refine cw_seq (cw_region ?_)
 refine rw_c rfl (or_box_agg (f := u8) (l := key) hm0 rfl) ?_
 rintro _ w1 ⟨b5, rfl, _ew1, hm1⟩
 refine rw_c rfl (or_box_agg (f := u8) (l := nonce) hm1 rfl) ?_
 rintro _ w2 ⟨b6, rfl, _ew2, hm2⟩
 refine rw_q rfl (ev_assign (v := (bl false)) rfl) ?_
 refine rw_nil (kThen_normal (cw_seq (cw_seq (cw_region ?_))))
 refine rw_c rfl (opR_call Tryd.func10 bd10 nm10 (args0) (c_speaks04 _ (hT.mono fun b o e => (hm2).rest b o e))) ?_
 rintro _ w3 ⟨rfl, _ew3⟩
 have hm3 := hm2.ext _ew3
 refine rw_q (v := (bl false)) rfl (ev_not (b := true) rfl) ?_
 refine rw_nil (kThen_normal ?_)
 refine cw_cond_f rfl (by decide) ?_
 refine cw_skip (kThen_normal (cw_seq (cw_seq (cw_region ?_))))
 refine rM rfl (v := va) rfl <| rw_q (v := (i64 (la.length : Int))) rfl (ev_len_rd (Rd.ofRest hra hm3) uT26 rfl) <| rw_q rfl (ev_i64_gtr (b := 500) rfl rfl) <| rw_q rfl (ev_move (v := (bl (decide (500 < (la.length : Int))))) rfl) ?_
 rcases Bool.eq_false_or_eq_true (decide (500 < (la.length : Int))) with hb5 | hb5
 · -- true
   have hb5p := of_decide_eq_true hb5
   refine rw_gn (s := 24) rfl rfl hb5 rfl <| rw_gn (s := 24) rfl rfl hb5 rfl <| rw_gn (s := 24) rfl rfl hb5 rfl <| rw_q rfl (ev_pick_tk rfl hb5 rfl) ?_
   refine rw_nil (kThen_normal ?_)
   refine CW.abs (fun g => g 0 = (agg u8 key) ∧ g 1 = (agg u8 nonce) ∧ g 2 = va ∧ g 3 = vc ∧ g 4 = (i64 bit) ∧ g 5 = (ptr b5 0) ∧ g 6 = (ptr b6 0) ∧ g 10 = (bl false) ∧ g 20 = (bl false) ∧ g 28 = (bl true) ∧ True) ⟨rfl, rfl, rfl, rfl, rfl, rfl, rfl, rfl, rfl, rfl, trivial⟩ ?_
   rintro fr6 ⟨s0, s1, s2, s3, s4, s5, s6, s10, s20, s28, _⟩
   refine cw_cond_t s28 (by decide) ?_
   refine cw_seq (cw_region ?_)
   refine rw_q rfl (ev_assign (v := (bl true)) rfl) ?_
   refine rw_nil (kThen_normal (cw_ret (kThen_ret ?_)))
   refine fnPost_ret [(bl true)] ⟨rfl, trivial⟩ ?_
   exact ⟨rfl, Mem.below w0 hm3⟩
 · -- false
   have hb5p := of_decide_eq_false hb5
   refine rw_gyq (s := 24) rfl rfl hb5 rfl (ev_move (v := vc) rfl) <| rw_gyq (s := 24) rfl rfl hb5 rfl (ev_len_rd (Rd.ofRest hrc hm3) uT26 rfl) <| rw_gyq (s := 24) rfl rfl hb5 rfl (ev_i64_gtr (b := 1000) rfl rfl) <| rw_q rfl (ev_pick_fk rfl hb5 rfl) ?_
   refine rw_nil (kThen_normal ?_)
   refine CW.abs (fun g => g 0 = (agg u8 key) ∧ g 1 = (agg u8 nonce) ∧ g 2 = va ∧ g 3 = vc ∧ g 4 = (i64 bit) ∧ g 5 = (ptr b5 0) ∧ g 6 = (ptr b6 0) ∧ g 10 = (bl false) ∧ g 20 = (bl false) ∧ g 28 = (bl (decide (1000 < (lc.length : Int)))) ∧ True) ⟨rfl, rfl, rfl, rfl, rfl, rfl, rfl, rfl, rfl, rfl, trivial⟩ ?_
   rintro fr7 ⟨s0, s1, s2, s3, s4, s5, s6, s10, s20, s28, _⟩
   refine cw_cond s28 (fun hc8 => ?_) (fun hc8 => ?_)
   · -- true
     have hc8p := of_decide_eq_true hc8
     refine cw_seq (cw_region ?_)
     refine rw_q rfl (ev_assign (v := (bl true)) rfl) ?_
     refine rw_nil (kThen_normal (cw_ret (kThen_ret ?_)))
     refine fnPost_ret [(bl true)] ⟨rfl, trivial⟩ ?_
     exact ⟨rfl, Mem.below w0 hm3⟩
   · -- false
     have hc8p := of_decide_eq_false hc8
     refine cw_skip (kThen_normal (cw_seq (cw_region ?_)))
     refine rw_q (v := (agg u8 key)) rfl (ev_loadA uT23 rfl ti23 s5 hm3.h1 sZ) <| rw_q (v := (agg u8 nonce)) rfl (ev_loadA uT25 rfl ti25 s6 hm3.h0 sZ) <| rM rfl s2 <| rM rfl s3 <| rw_c rfl (opR_call Tryd.func11 bd11 nm11 (args4 rfl rfl rfl rfl) (c_seal key nonce va la vc lc _ (hT.mono fun b o e => (hm3).rest b o e) sD sD (Rd.ofRest hra hm3) sD (Rd.ofRest hrc hm3) sD)) ?_
     rintro rxq10 w9 ⟨Hsq10, grxq10, k_w9⟩
     have hm9 : Mem w9 (restOf w0) (Hsq10 ++ ([(b6, .cells (cl u8 nonce) 25 (0, 0)), (b5, .cells (cl u8 key) 23 (0, 0))])) := Mem.new (H := [(b6, .cells (cl u8 nonce) 25 (0, 0)), (b5, .cells (cl u8 key) 23 (0, 0))]) (H' := Hsq10) hm3 k_w9
     refine rA rfl (v := rxq10) rfl ?_
     refine rw_nil (kThen_normal (cw_seq ?_))
     have hcl := closeP_length key nonce la lc
     refine cw_region <| rw_q (v := (agg u8 key)) rfl (ev_loadA uT23 rfl ti23 s5 ((Mem.pick2 Hsq10 [_] [_] _ hm9)).h0 sZ) <| rw_q (v := (agg u8 nonce)) rfl (ev_loadA uT25 rfl ti25 s6 ((Mem.pick Hsq10 [_] _ hm9)).h0 sZ) <| rM rfl s2 <| rM rfl (v := rxq10) rfl <| rw_c rfl (opR_call Tryd.func12 bd12 nm12 (args4 rfl rfl rfl rfl) (c_open key nonce va la rxq10 (closeP key nonce la lc) _ (hT.mono fun b o e => (hm9).rest b o e) sD sD (Rd.ofRest hra hm9) sD (grxq10.rd hm9) sD)) ?_
     rintro _ w11 ⟨vxq12, Hsq12, rfl, gvxq12, k_w11⟩
     have hm11 : Mem w11 (restOf w0) (Hsq12 ++ (Hsq10 ++ ([(b6, .cells (cl u8 nonce) 25 (0, 0)), (b5, .cells (cl u8 key) 23 (0, 0))]))) := Mem.new (H := Hsq10 ++ ([(b6, .cells (cl u8 nonce) 25 (0, 0)), (b5, .cells (cl u8 key) 23 (0, 0))])) (H' := Hsq12) hm9 k_w11
     refine rw_q rfl (ev_move (v := (Value.tuple #[vxq12, (i64 (errO key nonce la (closeP key nonce la lc)))])) rfl) <| rw_q (v := vxq12) rfl (ev_extract rfl rfl) <| rw_q (v := (i64 (errO key nonce la (closeP key nonce la lc)))) rfl (ev_extract rfl rfl) <| rA rfl (v := vxq12) rfl <| rw_q rfl (ev_assign (v := (i64 (errO key nonce la (closeP key nonce la lc)))) rfl) ?_
     refine rw_nil (kThen_normal ?_)
     refine CW.abs (fun g => g 0 = (agg u8 key) ∧ g 1 = (agg u8 nonce) ∧ g 2 = va ∧ g 3 = vc ∧ g 4 = (i64 bit) ∧ g 5 = (ptr b5 0) ∧ g 6 = (ptr b6 0) ∧ g 10 = (bl false) ∧ g 11 = rxq10 ∧ g 12 = vxq12 ∧ g 13 = (i64 (errO key nonce la (closeP key nonce la lc))) ∧ g 20 = (bl false) ∧ g 28 = (bl (decide (1000 < (lc.length : Int)))) ∧ True) ⟨s0, s1, s2, s3, s4, s5, s6, s10, rfl, rfl, rfl, s20, s28, trivial⟩ ?_
     rintro fr13 ⟨s0, s1, s2, s3, s4, s5, s6, s10, s11, s12, s13, s20, s28, _⟩
     refine cw_seq (cw_seq ?_)
     have hol : (openQ key nonce la (closeP key nonce la lc)).length = lc.length := by rw [open_close]
     refine cw_region <| rM rfl s13 <| rw_q rfl (ev_i64_neq (b := 0) rfl rfl) <| rw_q rfl (ev_move (v := (bl ((errO key nonce la (closeP key nonce la lc)) != 0))) rfl) ?_
     have hd14 : ((errO key nonce la (closeP key nonce la lc)) != 0) = false := told_ne (err_close _ _ _ _)
     refine rw_gyq (s := 44) rfl rfl hd14 rfl (ev_move s12) <| rw_gyq (s := 44) rfl rfl hd14 rfl (ev_move s3) <| rw_gy (s := 44) rfl rfl hd14 rfl (opR_call Tryd.func14 bd14 nm14 (args2 rfl rfl) (c_same vxq12 vc (openQ key nonce la (closeP key nonce la lc)) lc _ (gvxq12.rd hm11) (Rd.ofRest hrc hm11) sD)) ?_
     rintro _ w15 ⟨rfl, _ew15⟩
     have hm15 := hm11.ext _ew15
     refine rw_gyq (s := 44) rfl rfl hd14 rfl (ev_not rfl) <| rw_q rfl (ev_pick_fk rfl hd14 rfl) <| rw_q rfl (ev_move (v := (bl (!((openQ key nonce la (closeP key nonce la lc)) == lc)))) rfl) ?_
     have hd17 : ((openQ key nonce la (closeP key nonce la lc)) == lc) = true := told_true (open_close _ _ _ _)
     have hd18 : (!((openQ key nonce la (closeP key nonce la lc)) == lc)) = false := congrArg Bool.not hd17
     refine rw_gyq (s := 50) rfl rfl hd18 rfl (ev_move s11) <| rw_gyq (s := 50) rfl rfl hd18 rfl (ev_len_rd (grxq10.rd (Mem.pick Hsq12 Hsq10 _ hm15)) uT26 rfl) <| rw_gyq (s := 50) rfl rfl hd18 rfl (ev_move s3) <| rw_gyq (s := 50) rfl rfl hd18 rfl (ev_len_rd (Rd.ofRest hrc hm15) uT26 rfl) <| rw_gyq (s := 50) rfl rfl hd18 rfl (ev_i64_add (b := 32) rfl rfl oM oM) <| rw_gyq (s := 50) rfl rfl hd18 rfl (ev_i64_neq rfl rfl) ?_
     refine rw_q rfl (ev_pick_fk rfl hd18 rfl) ?_
     refine rw_nil (kThen_normal ?_)
     refine CW.abs (fun g => g 0 = (agg u8 key) ∧ g 1 = (agg u8 nonce) ∧ g 2 = va ∧ g 3 = vc ∧ g 4 = (i64 bit) ∧ g 5 = (ptr b5 0) ∧ g 6 = (ptr b6 0) ∧ g 10 = (bl false) ∧ g 11 = rxq10 ∧ g 12 = vxq12 ∧ g 13 = (i64 (errO key nonce la (closeP key nonce la lc))) ∧ g 20 = (bl false) ∧ g 28 = (bl (decide (1000 < (lc.length : Int)))) ∧ g 57 = (bl (((closeP key nonce la lc).length : Int) != ((lc.length : Int) + 32))) ∧ True) ⟨s0, s1, s2, s3, s4, s5, s6, s10, s11, s12, s13, s20, s28, rfl, trivial⟩ ?_
     rintro fr19 ⟨s0, s1, s2, s3, s4, s5, s6, s10, s11, s12, s13, s20, s28, s57, _⟩
     have hd20 : (((closeP key nonce la lc).length : Int) != ((lc.length : Int) + 32)) = false := told_ne (by rw [closeP_length]; omega)
     refine cw_cond_f s57 hd20 ?_
     refine cw_skip (kThen_normal (cw_seq (cw_region ?_)))
     refine rM rfl s4 ?_
     obtain ⟨n21, hn21, hn21l⟩ : ∃ q : Nat, (((BitVec.ofInt 64 bit).toNat &&& (1048575 : Int).toNat : Nat) : Int) = (q : Int) ∧ q ≤ 1048575 := ⟨_, rfl, Nat.and_le_right⟩
     refine rw_q rfl (EvQ.cast (congrArg i64 hn21) (ev_i64_and (b := 1048575) rfl rfl oM oM)) <| rM rfl s11 <| rw_q (v := (i64 ((closeP key nonce la lc).length : Int))) rfl (ev_len_rd (grxq10.rd (Mem.pick Hsq12 Hsq10 _ hm15)) uT26 rfl) <| rw_q rfl (ev_i64_mul (a := 8) rfl rfl oM oM) ?_
     obtain ⟨kk, hkk, hkkl⟩ : ∃ q : Nat, (n21 : Int) % (8 * ((closeP key nonce la lc).length : Int)) = (q : Int) ∧ (q : Int) < 8 * (((closeP key nonce la lc).length : Int)) := rem_nat oM oM
     refine rw_q rfl (EvQ.cast (congrArg i64 hkk) (ev_i64_rem rfl rfl oM oM oM)) <| rw_q rfl (ev_assign (v := (i64 (kk : Int))) rfl) ?_
     refine rw_nil (kThen_normal (cw_seq (cw_region ?_)))
     refine rw_c rfl (or_buildSlice_cl u8 [] u8_one hm15 uT26 ti5 rfl (by simp [pairs]) rfl) ?_
     rintro _ w22 ⟨b64, rfl, _ew22, hm22⟩
     refine rM rfl s11 <| rw_c rfl (or_append (f := u8) (Hs := [(b64, .cells (cl u8 ([])) 5 (0, 0))]) (H := Hsq12 ++ (Hsq10 ++ ([(b6, .cells (cl u8 nonce) 25 (0, 0)), (b5, .cells (cl u8 key) 23 (0, 0))]))) hm22 (Grow.of u8 5 b64 ([])) rfl rfl (grxq10.rd (Mem.pick2 [_] Hsq12 Hsq10 _ hm22)) uT26 uT26 ti5 rfl u8_one sD sD) ?_
     rintro sv23 w23 ⟨Hs23, hm23, g23⟩
     replace g23 : Grow u8 5 sv23 (closeP key nonce la lc) Hs23 := g23
     refine rA rfl (v := sv23) rfl ?_
     refine rw_nil (kThen_normal ?_)
     refine CW.abs (fun g => g 0 = (agg u8 key) ∧ g 1 = (agg u8 nonce) ∧ g 2 = va ∧ g 3 = vc ∧ g 4 = (i64 bit) ∧ g 5 = (ptr b5 0) ∧ g 6 = (ptr b6 0) ∧ g 10 = (bl false) ∧ g 11 = rxq10 ∧ g 12 = vxq12 ∧ g 13 = (i64 (errO key nonce la (closeP key nonce la lc))) ∧ g 14 = (i64 (kk : Int)) ∧ g 15 = sv23 ∧ g 20 = (bl false) ∧ g 28 = (bl (decide (1000 < (lc.length : Int)))) ∧ g 57 = (bl (((closeP key nonce la lc).length : Int) != ((lc.length : Int) + 32))) ∧ True) ⟨s0, s1, s2, s3, s4, s5, s6, s10, s11, s12, s13, rfl, rfl, s20, s28, s57, trivial⟩ ?_
     rintro fr24 ⟨s0, s1, s2, s3, s4, s5, s6, s10, s11, s12, s13, s14, s15, s20, s28, s57, _⟩
     refine cw_seq <| cw_draw [(0, false), (1, false), (2, false), (3, false), (4, false), (5, false), (6, false), (7, false)] 8 (by kernel_rfl) <| dM rfl rfl s15 <| dM rfl rfl s14 <| dw_q rfl rfl (fun _ _hx => ev_i64_quo (b := 8) rfl rfl oM oM oM) <| dw_q rfl rfl (fun _ _hx => ev_indexAddr_rdv (g23.rd (hm23.ext _hx)) uT26 ti5 rfl rfl oM sD) ?_
     refine dw_q (v := (u8 ((closeP key nonce la lc).getD (((kk : Int) / 8 : Int).toNat) 0))) rfl rfl (fun _ _hx => ev_load_rdD (l := closeP key nonce la lc) (i := (kk : Int) / 8) (dflt := 0) (g23.rd (hm23.ext _hx)) uT5 rfl oM sD rfl) <| dM rfl rfl s14 <| dw_q rfl rfl (fun _ _hx => ev_i64_rem (b := 8) rfl rfl oM oM oM) <| dw_q rfl rfl (fun _ _hx => ev_u8_shl (a := 1#8) rfl rfl oM) ?_
     refine dw_nil (fun w25 _ew25 => ?_)
     have hm25 := hm23.ext _ew25
     refine rw_q rfl (ev_u8_xor rfl rfl) <| rw_q rfl (ev_indexAddr_rdv (g23.rd hm25) uT26 ti5 rfl rfl oM sD) <| rw_n (or_store_grow (Hs := Hs23) (H := Hsq12 ++ (Hsq10 ++ ([(b6, .cells (cl u8 nonce) 25 (0, 0)), (b5, .cells (cl u8 key) 23 (0, 0))]))) (i := (kk : Int) / 8) (a := ((closeP key nonce la lc).getD (((kk : Int) / 8 : Int).toNat) 0) ^^^ (1#8 <<< ((kk : Int) % 8).toNat)) hm25 g23 u8_one ti5 oM sD rfl rfl) ?_
     rintro _ w26 ⟨Hs26, hm26, g26⟩
     replace g26 : Grow u8 5 sv23 ((closeP key nonce la lc).set (((kk : Int) / 8 : Int).toNat) (((closeP key nonce la lc).getD (((kk : Int) / 8 : Int).toNat) 0) ^^^ (1#8 <<< ((kk : Int) % 8).toNat))) Hs26 := g26
     refine rw_nil (kThen_normal (cw_seq (cw_region ?_)))
     refine rw_q (v := (agg u8 key)) rfl (ev_loadA uT23 rfl ti23 s5 ((Mem.pick4 Hs26 Hsq12 Hsq10 [_] [_] _ hm26)).h0 sZ) <| rw_q (v := (agg u8 nonce)) rfl (ev_loadA uT25 rfl ti25 s6 ((Mem.pick3 Hs26 Hsq12 Hsq10 [_] _ hm26)).h0 sZ) <| rM rfl s2 <| rM rfl s15 <| rw_c rfl (opR_call Tryd.func12 bd12 nm12 (args4 rfl rfl rfl rfl) (c_open key nonce va la sv23 ((closeP key nonce la lc).set (((kk : Int) / 8 : Int).toNat) (((closeP key nonce la lc).getD (((kk : Int) / 8 : Int).toNat) 0) ^^^ (1#8 <<< ((kk : Int) % 8).toNat))) _ (hT.mono fun b o e => (hm26).rest b o e) sD sD (Rd.ofRest hra hm26) sD (g26.rd hm26) sD)) ?_
     rintro _ w27 ⟨vxq28, Hsq28, rfl, gvxq28, k_w27⟩
     have hm27 : Mem w27 (restOf w0) (Hsq28 ++ (Hs26 ++ (Hsq12 ++ (Hsq10 ++ ([(b6, .cells (cl u8 nonce) 25 (0, 0)), (b5, .cells (cl u8 key) 23 (0, 0))]))))) := Mem.new (H := Hs26 ++ (Hsq12 ++ (Hsq10 ++ ([(b6, .cells (cl u8 nonce) 25 (0, 0)), (b5, .cells (cl u8 key) 23 (0, 0))])))) (H' := Hsq28) hm26 k_w27
     refine rM rfl rfl <| rw_q (v := vxq28) rfl (ev_extract rfl rfl) <| rw_q (v := (i64 (errO key nonce la ((closeP key nonce la lc).set (((kk : Int) / 8 : Int).toNat) (((closeP key nonce la lc).getD (((kk : Int) / 8 : Int).toNat) 0) ^^^ (1#8 <<< ((kk : Int) % 8).toNat)))))) rfl (ev_extract rfl rfl) <| rA rfl rfl ?_
     refine rw_nil (kThen_normal ?_)
     have hm29 := Mem.drop Hsq28 _ hm27
     refine CW.abs (fun g => g 0 = (agg u8 key) ∧ g 1 = (agg u8 nonce) ∧ g 2 = va ∧ g 3 = vc ∧ g 4 = (i64 bit) ∧ g 5 = (ptr b5 0) ∧ g 6 = (ptr b6 0) ∧ g 10 = (bl false) ∧ g 11 = rxq10 ∧ g 12 = vxq12 ∧ g 13 = (i64 (errO key nonce la ((closeP key nonce la lc).set (((kk : Int) / 8 : Int).toNat) (((closeP key nonce la lc).getD (((kk : Int) / 8 : Int).toNat) 0) ^^^ (1#8 <<< ((kk : Int) % 8).toNat))))) ∧ g 14 = (i64 (kk : Int)) ∧ g 15 = sv23 ∧ g 20 = (bl false) ∧ g 28 = (bl (decide (1000 < (lc.length : Int)))) ∧ g 57 = (bl (((closeP key nonce la lc).length : Int) != ((lc.length : Int) + 32))) ∧ True) ⟨s0, s1, s2, s3, s4, s5, s6, s10, s11, s12, rfl, s14, s15, s20, s28, s57, trivial⟩ ?_
     rintro fr30 ⟨s0, s1, s2, s3, s4, s5, s6, s10, s11, s12, s13, s14, s15, s20, s28, s57, _⟩
     refine cw_seq (cw_region ?_)
     refine rw_q (v := (agg u8 key)) rfl (ev_loadA uT23 rfl ti23 s5 ((Mem.pick4 Hs26 Hsq12 Hsq10 [_] [_] _ hm29)).h0 sZ) <| rw_q (v := (agg u8 nonce)) rfl (ev_loadA uT25 rfl ti25 s6 ((Mem.pick3 Hs26 Hsq12 Hsq10 [_] _ hm29)).h0 sZ) <| rM rfl s2 <| rM rfl s15 <| rw_c rfl (opR_call Tryd.func13 bd13 nm13 (args4 rfl rfl rfl rfl) (c_ropen key nonce va la sv23 ((closeP key nonce la lc).set (((kk : Int) / 8 : Int).toNat) (((closeP key nonce la lc).getD (((kk : Int) / 8 : Int).toNat) 0) ^^^ (1#8 <<< ((kk : Int) % 8).toNat))) _ sD sD (Rd.ofRest hra hm29) sD (g26.rd hm29) sD)) ?_
     rintro _ w31 ⟨vxq32, Hsq32, rfl, gvxq32, k_w31⟩
     have hm31 : Mem w31 (restOf w0) (Hsq32 ++ (Hs26 ++ (Hsq12 ++ (Hsq10 ++ ([(b6, .cells (cl u8 nonce) 25 (0, 0)), (b5, .cells (cl u8 key) 23 (0, 0))]))))) := Mem.new (H := Hs26 ++ (Hsq12 ++ (Hsq10 ++ ([(b6, .cells (cl u8 nonce) 25 (0, 0)), (b5, .cells (cl u8 key) 23 (0, 0))])))) (H' := Hsq32) hm29 k_w31
     refine rM rfl rfl <| rw_q (v := vxq32) rfl (ev_extract rfl rfl) <| rw_q (v := (i64 (errO key nonce la ((closeP key nonce la lc).set (((kk : Int) / 8 : Int).toNat) (((closeP key nonce la lc).getD (((kk : Int) / 8 : Int).toNat) 0) ^^^ (1#8 <<< ((kk : Int) % 8).toNat)))))) rfl (ev_extract rfl rfl) <| rA rfl (v := vxq32) rfl <| rA rfl rfl ?_
     refine rw_nil (kThen_normal (cw_seq (cw_seq (cw_region ?_))))
     refine rM rfl s13 <| rM rfl rfl <| rw_q rfl (ev_i64_neq rfl rfl) <| rM rfl rfl ?_
     have hd33 : ((errO key nonce la ((closeP key nonce la lc).set (((kk : Int) / 8 : Int).toNat) (((closeP key nonce la lc).getD (((kk : Int) / 8 : Int).toNat) 0) ^^^ (1#8 <<< ((kk : Int) % 8).toNat)))) != (errO key nonce la ((closeP key nonce la lc).set (((kk : Int) / 8 : Int).toNat) (((closeP key nonce la lc).getD (((kk : Int) / 8 : Int).toNat) 0) ^^^ (1#8 <<< ((kk : Int) % 8).toNat))))) = false := told_ne rfl
     refine rw_gyq (s := 96) rfl rfl hd33 rfl (ev_move s14) <| rw_gyq (s := 96) rfl rfl hd33 rfl (ev_i64_quo (b := 8) rfl rfl oM oM oM) <| rw_gyq (s := 96) rfl rfl hd33 rfl (ev_move s3) <| rw_gyq (s := 96) rfl rfl hd33 rfl (ev_len_rd (Rd.ofRest hrc hm31) uT26 rfl) <| rw_gyq (s := 96) rfl rfl hd33 rfl (ev_i64_geq rfl rfl) <| rw_gyq (s := 96) rfl rfl hd33 rfl (ev_move (v := (bl (decide ((lc.length : Int) ≤ ((kk : Int) / 8))))) rfl) ?_
     rcases Bool.eq_false_or_eq_true (decide ((lc.length : Int) ≤ ((kk : Int) / 8))) with hb34 | hb34
     · -- true
       have hb34p := of_decide_eq_true hb34
       refine rw_gyq (s := 102) rfl rfl hb34 rfl (ev_move s13) <| rw_gyq (s := 102) rfl rfl hb34 rfl (ev_i64_neq (b := 10) rfl rfl) <| rw_gyq (s := 96) rfl rfl hd33 rfl (ev_pick_tk rfl hb34 rfl) <| rw_q rfl (ev_pick_fk rfl hd33 rfl) ?_
       refine rw_nil (kThen_normal ?_)
       have hm35 := Mem.drop Hsq32 _ hm31
       refine CW.abs (fun g => g 0 = (agg u8 key) ∧ g 1 = (agg u8 nonce) ∧ g 2 = va ∧ g 3 = vc ∧ g 4 = (i64 bit) ∧ g 5 = (ptr b5 0) ∧ g 6 = (ptr b6 0) ∧ g 10 = (bl false) ∧ g 11 = rxq10 ∧ g 12 = vxq12 ∧ g 13 = (i64 (errO key nonce la ((closeP key nonce la lc).set (((kk : Int) / 8 : Int).toNat) (((closeP key nonce la lc).getD (((kk : Int) / 8 : Int).toNat) 0) ^^^ (1#8 <<< ((kk : Int) % 8).toNat))))) ∧ g 14 = (i64 (kk : Int)) ∧ g 15 = sv23 ∧ g 17 = (i64 (errO key nonce la ((closeP key nonce la lc).set (((kk : Int) / 8 : Int).toNat) (((closeP key nonce la lc).getD (((kk : Int) / 8 : Int).toNat) 0) ^^^ (1#8 <<< ((kk : Int) % 8).toNat))))) ∧ g 20 = (bl false) ∧ g 28 = (bl (decide (1000 < (lc.length : Int)))) ∧ g 57 = (bl (((closeP key nonce la lc).length : Int) != ((lc.length : Int) + 32))) ∧ g 106 = (bl ((errO key nonce la ((closeP key nonce la lc).set (((kk : Int) / 8 : Int).toNat) (((closeP key nonce la lc).getD (((kk : Int) / 8 : Int).toNat) 0) ^^^ (1#8 <<< ((kk : Int) % 8).toNat)))) != 10)) ∧ True) ⟨s0, s1, s2, s3, s4, s5, s6, s10, s11, s12, s13, s14, s15, rfl, s20, s28, s57, rfl, trivial⟩ ?_
       rintro fr36 ⟨s0, s1, s2, s3, s4, s5, s6, s10, s11, s12, s13, s14, s15, s17, s20, s28, s57, s106, _⟩
       have hd37 : ((errO key nonce la ((closeP key nonce la lc).set (((kk : Int) / 8 : Int).toNat) (((closeP key nonce la lc).getD (((kk : Int) / 8 : Int).toNat) 0) ^^^ (1#8 <<< ((kk : Int) % 8).toNat)))) != 10) = false := told_ne (bad_tag oM oM (shl_ne oM oM))
       refine cw_cond_f s106 hd37 ?_
       refine cw_skip (kThen_normal (cw_seq (cw_seq (cw_region ?_))))
       refine rM rfl s2 <| rw_q (v := (i64 (la.length : Int))) rfl (ev_len_rd (Rd.ofRest hra hm35) uT26 rfl) <| rw_q rfl (ev_i64_eql (b := 0) rfl rfl) ?_
       refine rw_nil (kThen_normal ?_)
       refine cw_cond rfl (fun hc38 => ?_) (fun hc38 => ?_)
       · -- true
         have hc38p := eq_of_beq hc38
         refine cw_seq (cw_region ?_)
         refine rw_q rfl (ev_assign (v := (bl true)) rfl) ?_
         refine rw_nil (kThen_normal (cw_ret (kThen_ret ?_)))
         refine fnPost_ret [(bl true)] ⟨rfl, trivial⟩ ?_
         exact ⟨rfl, Mem.below w0 hm35⟩
       · -- false
         have hc38p := ne_of_beq_false hc38
         refine cw_skip (kThen_normal (cw_seq (cw_region ?_)))
         refine rw_c rfl (or_buildSlice_cl u8 [] u8_one hm35 uT26 ti5 rfl (by simp [pairs]) rfl) ?_
         rintro _ w39 ⟨b110, rfl, _ew39, hm39⟩
         refine rM rfl s2 <| rw_c rfl (or_append (f := u8) (Hs := [(b110, .cells (cl u8 ([])) 5 (0, 0))]) (H := Hs26 ++ (Hsq12 ++ (Hsq10 ++ ([(b6, .cells (cl u8 nonce) 25 (0, 0)), (b5, .cells (cl u8 key) 23 (0, 0))])))) hm39 (Grow.of u8 5 b110 ([])) rfl rfl (Rd.ofRest hra hm39) uT26 uT26 ti5 rfl u8_one sD sD) ?_
         rintro sv40 w40 ⟨Hs40, hm40, g40⟩
         replace g40 : Grow u8 5 sv40 la Hs40 := g40
         refine rA rfl (v := sv40) rfl ?_
         refine rw_nil (kThen_normal (cw_seq (cw_region ?_)))
         refine rM rfl (v := sv40) rfl <| rM rfl s14 <| rM rfl (v := sv40) rfl <| rw_q (v := (i64 (la.length : Int))) rfl (ev_len_rd (g40.rd hm40) uT26 rfl) ?_
         obtain ⟨ss, hss, hssl⟩ : ∃ q : Nat, (kk : Int) % (la.length : Int) = (q : Int) ∧ (q : Int) < (la.length : Int) := rem_nat oM oM
         refine rw_q rfl (EvQ.cast (congrArg i64 hss) (ev_i64_rem rfl rfl oM oM oM)) <| rw_q rfl (ev_indexAddr_rdv (g40.rd hm40) uT26 ti5 rfl rfl oM sD) <| rw_q (v := (u8 (la.getD ss 0))) rfl (ev_load_rdD (l := la) (i := (ss : Int)) (dflt := 0) (g40.rd hm40) uT5 rfl oM sD rfl) <| rw_q rfl (ev_u8_xor (b := 1#8) rfl rfl) <| rw_q rfl (ev_indexAddr_rdv (g40.rd hm40) uT26 ti5 rfl rfl oM sD) <| rw_n (or_store_grow (Hs := Hs40) (H := Hs26 ++ (Hsq12 ++ (Hsq10 ++ ([(b6, .cells (cl u8 nonce) 25 (0, 0)), (b5, .cells (cl u8 key) 23 (0, 0))])))) (i := (ss : Int)) (a := (la.getD ss 0) ^^^ 1#8) hm40 g40 u8_one ti5 oM sD rfl rfl) ?_
         rintro _ w41 ⟨Hs41, hm41, g41⟩
         replace g41 : Grow u8 5 sv40 (la.set ss ((la.getD ss 0) ^^^ 1#8)) Hs41 := g41
         refine rw_nil (kThen_normal ?_)
         refine CW.abs (fun g => g 0 = (agg u8 key) ∧ g 1 = (agg u8 nonce) ∧ g 2 = va ∧ g 3 = vc ∧ g 4 = (i64 bit) ∧ g 5 = (ptr b5 0) ∧ g 6 = (ptr b6 0) ∧ g 10 = (bl false) ∧ g 11 = rxq10 ∧ g 12 = vxq12 ∧ g 13 = (i64 (errO key nonce la ((closeP key nonce la lc).set (((kk : Int) / 8 : Int).toNat) (((closeP key nonce la lc).getD (((kk : Int) / 8 : Int).toNat) 0) ^^^ (1#8 <<< ((kk : Int) % 8).toNat))))) ∧ g 14 = (i64 (kk : Int)) ∧ g 15 = sv23 ∧ g 17 = (i64 (errO key nonce la ((closeP key nonce la lc).set (((kk : Int) / 8 : Int).toNat) (((closeP key nonce la lc).getD (((kk : Int) / 8 : Int).toNat) 0) ^^^ (1#8 <<< ((kk : Int) % 8).toNat))))) ∧ g 18 = sv40 ∧ g 20 = (bl false) ∧ g 28 = (bl (decide (1000 < (lc.length : Int)))) ∧ g 57 = (bl (((closeP key nonce la lc).length : Int) != ((lc.length : Int) + 32))) ∧ g 106 = (bl ((errO key nonce la ((closeP key nonce la lc).set (((kk : Int) / 8 : Int).toNat) (((closeP key nonce la lc).getD (((kk : Int) / 8 : Int).toNat) 0) ^^^ (1#8 <<< ((kk : Int) % 8).toNat)))) != 10)) ∧ g 109 = (bl ((la.length : Int) == 0)) ∧ True) ⟨s0, s1, s2, s3, s4, s5, s6, s10, s11, s12, s13, s14, s15, s17, rfl, s20, s28, s57, s106, rfl, trivial⟩ ?_
         rintro fr42 ⟨s0, s1, s2, s3, s4, s5, s6, s10, s11, s12, s13, s14, s15, s17, s18, s20, s28, s57, s106, s109, _⟩
         refine cw_seq (cw_region ?_)
         refine rw_q (v := (agg u8 key)) rfl (ev_loadA uT23 rfl ti23 s5 ((Mem.pick5 Hs41 Hs26 Hsq12 Hsq10 [_] [_] _ hm41)).h0 sZ) <| rw_q (v := (agg u8 nonce)) rfl (ev_loadA uT25 rfl ti25 s6 ((Mem.pick4 Hs41 Hs26 Hsq12 Hsq10 [_] _ hm41)).h0 sZ) <| rM rfl s18 <| rM rfl s11 <| rw_c rfl (opR_call Tryd.func12 bd12 nm12 (args4 rfl rfl rfl rfl) (c_open key nonce sv40 (la.set ss ((la.getD ss 0) ^^^ 1#8)) rxq10 (closeP key nonce la lc) _ (hT.mono fun b o e => (hm41).rest b o e) sD sD (g41.rd hm41) sD (grxq10.rd (Mem.pick3 Hs41 Hs26 Hsq12 Hsq10 _ hm41)) sD)) ?_
         rintro _ w43 ⟨vxq44, Hsq44, rfl, gvxq44, k_w43⟩
         have hm43 : Mem w43 (restOf w0) (Hsq44 ++ (Hs41 ++ (Hs26 ++ (Hsq12 ++ (Hsq10 ++ ([(b6, .cells (cl u8 nonce) 25 (0, 0)), (b5, .cells (cl u8 key) 23 (0, 0))])))))) := Mem.new (H := Hs41 ++ (Hs26 ++ (Hsq12 ++ (Hsq10 ++ ([(b6, .cells (cl u8 nonce) 25 (0, 0)), (b5, .cells (cl u8 key) 23 (0, 0))]))))) (H' := Hsq44) hm41 k_w43
         refine rM rfl rfl <| rw_q (v := vxq44) rfl (ev_extract rfl rfl) <| rw_q (v := (i64 (errO key nonce (la.set ss ((la.getD ss 0) ^^^ 1#8)) (closeP key nonce la lc)))) rfl (ev_extract rfl rfl) <| rA rfl rfl ?_
         refine rw_nil (kThen_normal (cw_seq (cw_region ?_)))
         refine rw_q (v := (agg u8 key)) rfl (ev_loadA uT23 rfl ti23 s5 ((Mem.pick6 Hsq44 Hs41 Hs26 Hsq12 Hsq10 [_] [_] _ hm43)).h0 sZ) <| rw_q (v := (agg u8 nonce)) rfl (ev_loadA uT25 rfl ti25 s6 ((Mem.pick5 Hsq44 Hs41 Hs26 Hsq12 Hsq10 [_] _ hm43)).h0 sZ) <| rM rfl s18 <| rM rfl s11 <| rw_c rfl (opR_call Tryd.func13 bd13 nm13 (args4 rfl rfl rfl rfl) (c_ropen key nonce sv40 (la.set ss ((la.getD ss 0) ^^^ 1#8)) rxq10 (closeP key nonce la lc) _ sD sD (g41.rd (Mem.pick Hsq44 Hs41 _ hm43)) sD (grxq10.rd (Mem.pick4 Hsq44 Hs41 Hs26 Hsq12 Hsq10 _ hm43)) sD)) ?_
         rintro _ w45 ⟨vxq46, Hsq46, rfl, gvxq46, k_w45⟩
         have hm45 : Mem w45 (restOf w0) (Hsq46 ++ (Hsq44 ++ (Hs41 ++ (Hs26 ++ (Hsq12 ++ (Hsq10 ++ ([(b6, .cells (cl u8 nonce) 25 (0, 0)), (b5, .cells (cl u8 key) 23 (0, 0))]))))))) := Mem.new (H := Hsq44 ++ (Hs41 ++ (Hs26 ++ (Hsq12 ++ (Hsq10 ++ ([(b6, .cells (cl u8 nonce) 25 (0, 0)), (b5, .cells (cl u8 key) 23 (0, 0))])))))) (H' := Hsq46) hm43 k_w45
         refine rM rfl rfl <| rw_q (v := vxq46) rfl (ev_extract rfl rfl) <| rw_q (v := (i64 (errO key nonce (la.set ss ((la.getD ss 0) ^^^ 1#8)) (closeP key nonce la lc)))) rfl (ev_extract rfl rfl) <| rA rfl rfl ?_
         refine rw_nil (kThen_normal ?_)
         have hm47 := Mem.drop Hsq46 _ hm45
         have hm48 := Mem.drop Hsq44 _ hm47
         refine CW.abs (fun g => g 0 = (agg u8 key) ∧ g 1 = (agg u8 nonce) ∧ g 2 = va ∧ g 3 = vc ∧ g 4 = (i64 bit) ∧ g 5 = (ptr b5 0) ∧ g 6 = (ptr b6 0) ∧ g 10 = (bl false) ∧ g 11 = rxq10 ∧ g 12 = vxq12 ∧ g 13 = (i64 (errO key nonce (la.set ss ((la.getD ss 0) ^^^ 1#8)) (closeP key nonce la lc))) ∧ g 14 = (i64 (kk : Int)) ∧ g 15 = sv23 ∧ g 17 = (i64 (errO key nonce (la.set ss ((la.getD ss 0) ^^^ 1#8)) (closeP key nonce la lc))) ∧ g 18 = sv40 ∧ g 20 = (bl false) ∧ g 28 = (bl (decide (1000 < (lc.length : Int)))) ∧ g 57 = (bl (((closeP key nonce la lc).length : Int) != ((lc.length : Int) + 32))) ∧ g 106 = (bl ((errO key nonce la ((closeP key nonce la lc).set (((kk : Int) / 8 : Int).toNat) (((closeP key nonce la lc).getD (((kk : Int) / 8 : Int).toNat) 0) ^^^ (1#8 <<< ((kk : Int) % 8).toNat)))) != 10)) ∧ g 109 = (bl ((la.length : Int) == 0)) ∧ True) ⟨s0, s1, s2, s3, s4, s5, s6, s10, s11, s12, rfl, s14, s15, rfl, s18, s20, s28, s57, s106, s109, trivial⟩ ?_
         rintro fr49 ⟨s0, s1, s2, s3, s4, s5, s6, s10, s11, s12, s13, s14, s15, s17, s18, s20, s28, s57, s106, s109, _⟩
         refine cw_seq (cw_region ?_)
         refine rM rfl s13 <| rM rfl s17 <| rw_q rfl (ev_i64_eql rfl rfl) <| rA rfl rfl ?_
         refine rw_nil (kThen_normal (cw_ret ?_))
         refine fnPost_ret [(bl ((errO key nonce (la.set ss ((la.getD ss 0) ^^^ 1#8)) (closeP key nonce la lc)) == (errO key nonce (la.set ss ((la.getD ss 0) ^^^ 1#8)) (closeP key nonce la lc))))] ⟨rfl, trivial⟩ ?_
         have hd50 : ((errO key nonce (la.set ss ((la.getD ss 0) ^^^ 1#8)) (closeP key nonce la lc)) == (errO key nonce (la.set ss ((la.getD ss 0) ^^^ 1#8)) (closeP key nonce la lc))) = true := told_true rfl
         exact ⟨congrArg bl hd50, Mem.below w0 hm48⟩
     · -- false
       have hb34p := of_decide_eq_false hb34
       refine rw_gn (s := 102) rfl rfl hb34 rfl <| rw_gn (s := 102) rfl rfl hb34 rfl <| rw_gyq (s := 96) rfl rfl hd33 rfl (ev_pick_fk rfl hb34 rfl) <| rw_q rfl (ev_pick_fk rfl hd33 rfl) ?_
       refine rw_nil (kThen_normal ?_)
       have hm51 := Mem.drop Hsq32 _ hm31
       refine CW.abs (fun g => g 0 = (agg u8 key) ∧ g 1 = (agg u8 nonce) ∧ g 2 = va ∧ g 3 = vc ∧ g 4 = (i64 bit) ∧ g 5 = (ptr b5 0) ∧ g 6 = (ptr b6 0) ∧ g 10 = (bl false) ∧ g 11 = rxq10 ∧ g 12 = vxq12 ∧ g 13 = (i64 (errO key nonce la ((closeP key nonce la lc).set (((kk : Int) / 8 : Int).toNat) (((closeP key nonce la lc).getD (((kk : Int) / 8 : Int).toNat) 0) ^^^ (1#8 <<< ((kk : Int) % 8).toNat))))) ∧ g 14 = (i64 (kk : Int)) ∧ g 15 = sv23 ∧ g 17 = (i64 (errO key nonce la ((closeP key nonce la lc).set (((kk : Int) / 8 : Int).toNat) (((closeP key nonce la lc).getD (((kk : Int) / 8 : Int).toNat) 0) ^^^ (1#8 <<< ((kk : Int) % 8).toNat))))) ∧ g 20 = (bl false) ∧ g 28 = (bl (decide (1000 < (lc.length : Int)))) ∧ g 57 = (bl (((closeP key nonce la lc).length : Int) != ((lc.length : Int) + 32))) ∧ g 106 = (bl false) ∧ True) ⟨s0, s1, s2, s3, s4, s5, s6, s10, s11, s12, s13, s14, s15, rfl, s20, s28, s57, rfl, trivial⟩ ?_
       rintro fr52 ⟨s0, s1, s2, s3, s4, s5, s6, s10, s11, s12, s13, s14, s15, s17, s20, s28, s57, s106, _⟩
       refine cw_cond_f s106 (by decide) ?_
       refine cw_skip (kThen_normal (cw_seq (cw_seq (cw_region ?_))))
       refine rM rfl s2 <| rw_q (v := (i64 (la.length : Int))) rfl (ev_len_rd (Rd.ofRest hra hm51) uT26 rfl) <| rw_q rfl (ev_i64_eql (b := 0) rfl rfl) ?_
       refine rw_nil (kThen_normal ?_)
       refine cw_cond rfl (fun hc53 => ?_) (fun hc53 => ?_)
       · -- true
         have hc53p := eq_of_beq hc53
         refine cw_seq (cw_region ?_)
         refine rw_q rfl (ev_assign (v := (bl true)) rfl) ?_
         refine rw_nil (kThen_normal (cw_ret (kThen_ret ?_)))
         refine fnPost_ret [(bl true)] ⟨rfl, trivial⟩ ?_
         exact ⟨rfl, Mem.below w0 hm51⟩
       · -- false
         have hc53p := ne_of_beq_false hc53
         refine cw_skip (kThen_normal (cw_seq (cw_region ?_)))
         refine rw_c rfl (or_buildSlice_cl u8 [] u8_one hm51 uT26 ti5 rfl (by simp [pairs]) rfl) ?_
         rintro _ w54 ⟨b110_1, rfl, _ew54, hm54⟩
         refine rM rfl s2 <| rw_c rfl (or_append (f := u8) (Hs := [(b110_1, .cells (cl u8 ([])) 5 (0, 0))]) (H := Hs26 ++ (Hsq12 ++ (Hsq10 ++ ([(b6, .cells (cl u8 nonce) 25 (0, 0)), (b5, .cells (cl u8 key) 23 (0, 0))])))) hm54 (Grow.of u8 5 b110_1 ([])) rfl rfl (Rd.ofRest hra hm54) uT26 uT26 ti5 rfl u8_one sD sD) ?_
         rintro sv55 w55 ⟨Hs55, hm55, g55⟩
         replace g55 : Grow u8 5 sv55 la Hs55 := g55
         refine rA rfl (v := sv55) rfl ?_
         refine rw_nil (kThen_normal (cw_seq (cw_region ?_)))
         refine rM rfl (v := sv55) rfl <| rM rfl s14 <| rM rfl (v := sv55) rfl <| rw_q (v := (i64 (la.length : Int))) rfl (ev_len_rd (g55.rd hm55) uT26 rfl) ?_
         obtain ⟨ss, hss, hssl⟩ : ∃ q : Nat, (kk : Int) % (la.length : Int) = (q : Int) ∧ (q : Int) < (la.length : Int) := rem_nat oM oM
         refine rw_q rfl (EvQ.cast (congrArg i64 hss) (ev_i64_rem rfl rfl oM oM oM)) <| rw_q rfl (ev_indexAddr_rdv (g55.rd hm55) uT26 ti5 rfl rfl oM sD) <| rw_q (v := (u8 (la.getD ss 0))) rfl (ev_load_rdD (l := la) (i := (ss : Int)) (dflt := 0) (g55.rd hm55) uT5 rfl oM sD rfl) <| rw_q rfl (ev_u8_xor (b := 1#8) rfl rfl) <| rw_q rfl (ev_indexAddr_rdv (g55.rd hm55) uT26 ti5 rfl rfl oM sD) <| rw_n (or_store_grow (Hs := Hs55) (H := Hs26 ++ (Hsq12 ++ (Hsq10 ++ ([(b6, .cells (cl u8 nonce) 25 (0, 0)), (b5, .cells (cl u8 key) 23 (0, 0))])))) (i := (ss : Int)) (a := (la.getD ss 0) ^^^ 1#8) hm55 g55 u8_one ti5 oM sD rfl rfl) ?_
         rintro _ w56 ⟨Hs56, hm56, g56⟩
         replace g56 : Grow u8 5 sv55 (la.set ss ((la.getD ss 0) ^^^ 1#8)) Hs56 := g56
         refine rw_nil (kThen_normal ?_)
         refine CW.abs (fun g => g 0 = (agg u8 key) ∧ g 1 = (agg u8 nonce) ∧ g 2 = va ∧ g 3 = vc ∧ g 4 = (i64 bit) ∧ g 5 = (ptr b5 0) ∧ g 6 = (ptr b6 0) ∧ g 10 = (bl false) ∧ g 11 = rxq10 ∧ g 12 = vxq12 ∧ g 13 = (i64 (errO key nonce la ((closeP key nonce la lc).set (((kk : Int) / 8 : Int).toNat) (((closeP key nonce la lc).getD (((kk : Int) / 8 : Int).toNat) 0) ^^^ (1#8 <<< ((kk : Int) % 8).toNat))))) ∧ g 14 = (i64 (kk : Int)) ∧ g 15 = sv23 ∧ g 17 = (i64 (errO key nonce la ((closeP key nonce la lc).set (((kk : Int) / 8 : Int).toNat) (((closeP key nonce la lc).getD (((kk : Int) / 8 : Int).toNat) 0) ^^^ (1#8 <<< ((kk : Int) % 8).toNat))))) ∧ g 18 = sv55 ∧ g 20 = (bl false) ∧ g 28 = (bl (decide (1000 < (lc.length : Int)))) ∧ g 57 = (bl (((closeP key nonce la lc).length : Int) != ((lc.length : Int) + 32))) ∧ g 106 = (bl false) ∧ g 109 = (bl ((la.length : Int) == 0)) ∧ True) ⟨s0, s1, s2, s3, s4, s5, s6, s10, s11, s12, s13, s14, s15, s17, rfl, s20, s28, s57, s106, rfl, trivial⟩ ?_
         rintro fr57 ⟨s0, s1, s2, s3, s4, s5, s6, s10, s11, s12, s13, s14, s15, s17, s18, s20, s28, s57, s106, s109, _⟩
         refine cw_seq (cw_region ?_)
         refine rw_q (v := (agg u8 key)) rfl (ev_loadA uT23 rfl ti23 s5 ((Mem.pick5 Hs56 Hs26 Hsq12 Hsq10 [_] [_] _ hm56)).h0 sZ) <| rw_q (v := (agg u8 nonce)) rfl (ev_loadA uT25 rfl ti25 s6 ((Mem.pick4 Hs56 Hs26 Hsq12 Hsq10 [_] _ hm56)).h0 sZ) <| rM rfl s18 <| rM rfl s11 <| rw_c rfl (opR_call Tryd.func12 bd12 nm12 (args4 rfl rfl rfl rfl) (c_open key nonce sv55 (la.set ss ((la.getD ss 0) ^^^ 1#8)) rxq10 (closeP key nonce la lc) _ (hT.mono fun b o e => (hm56).rest b o e) sD sD (g56.rd hm56) sD (grxq10.rd (Mem.pick3 Hs56 Hs26 Hsq12 Hsq10 _ hm56)) sD)) ?_
         rintro _ w58 ⟨vxq59, Hsq59, rfl, gvxq59, k_w58⟩
         have hm58 : Mem w58 (restOf w0) (Hsq59 ++ (Hs56 ++ (Hs26 ++ (Hsq12 ++ (Hsq10 ++ ([(b6, .cells (cl u8 nonce) 25 (0, 0)), (b5, .cells (cl u8 key) 23 (0, 0))])))))) := Mem.new (H := Hs56 ++ (Hs26 ++ (Hsq12 ++ (Hsq10 ++ ([(b6, .cells (cl u8 nonce) 25 (0, 0)), (b5, .cells (cl u8 key) 23 (0, 0))]))))) (H' := Hsq59) hm56 k_w58
         refine rM rfl rfl <| rw_q (v := vxq59) rfl (ev_extract rfl rfl) <| rw_q (v := (i64 (errO key nonce (la.set ss ((la.getD ss 0) ^^^ 1#8)) (closeP key nonce la lc)))) rfl (ev_extract rfl rfl) <| rA rfl rfl ?_
         refine rw_nil (kThen_normal (cw_seq (cw_region ?_)))
         refine rw_q (v := (agg u8 key)) rfl (ev_loadA uT23 rfl ti23 s5 ((Mem.pick6 Hsq59 Hs56 Hs26 Hsq12 Hsq10 [_] [_] _ hm58)).h0 sZ) <| rw_q (v := (agg u8 nonce)) rfl (ev_loadA uT25 rfl ti25 s6 ((Mem.pick5 Hsq59 Hs56 Hs26 Hsq12 Hsq10 [_] _ hm58)).h0 sZ) <| rM rfl s18 <| rM rfl s11 <| rw_c rfl (opR_call Tryd.func13 bd13 nm13 (args4 rfl rfl rfl rfl) (c_ropen key nonce sv55 (la.set ss ((la.getD ss 0) ^^^ 1#8)) rxq10 (closeP key nonce la lc) _ sD sD (g56.rd (Mem.pick Hsq59 Hs56 _ hm58)) sD (grxq10.rd (Mem.pick4 Hsq59 Hs56 Hs26 Hsq12 Hsq10 _ hm58)) sD)) ?_
         rintro _ w60 ⟨vxq61, Hsq61, rfl, gvxq61, k_w60⟩
         have hm60 : Mem w60 (restOf w0) (Hsq61 ++ (Hsq59 ++ (Hs56 ++ (Hs26 ++ (Hsq12 ++ (Hsq10 ++ ([(b6, .cells (cl u8 nonce) 25 (0, 0)), (b5, .cells (cl u8 key) 23 (0, 0))]))))))) := Mem.new (H := Hsq59 ++ (Hs56 ++ (Hs26 ++ (Hsq12 ++ (Hsq10 ++ ([(b6, .cells (cl u8 nonce) 25 (0, 0)), (b5, .cells (cl u8 key) 23 (0, 0))])))))) (H' := Hsq61) hm58 k_w60
         refine rM rfl rfl <| rw_q (v := vxq61) rfl (ev_extract rfl rfl) <| rw_q (v := (i64 (errO key nonce (la.set ss ((la.getD ss 0) ^^^ 1#8)) (closeP key nonce la lc)))) rfl (ev_extract rfl rfl) <| rA rfl rfl ?_
         refine rw_nil (kThen_normal ?_)
         have hm62 := Mem.drop Hsq61 _ hm60
         have hm63 := Mem.drop Hsq59 _ hm62
         refine CW.abs (fun g => g 0 = (agg u8 key) ∧ g 1 = (agg u8 nonce) ∧ g 2 = va ∧ g 3 = vc ∧ g 4 = (i64 bit) ∧ g 5 = (ptr b5 0) ∧ g 6 = (ptr b6 0) ∧ g 10 = (bl false) ∧ g 11 = rxq10 ∧ g 12 = vxq12 ∧ g 13 = (i64 (errO key nonce (la.set ss ((la.getD ss 0) ^^^ 1#8)) (closeP key nonce la lc))) ∧ g 14 = (i64 (kk : Int)) ∧ g 15 = sv23 ∧ g 17 = (i64 (errO key nonce (la.set ss ((la.getD ss 0) ^^^ 1#8)) (closeP key nonce la lc))) ∧ g 18 = sv55 ∧ g 20 = (bl false) ∧ g 28 = (bl (decide (1000 < (lc.length : Int)))) ∧ g 57 = (bl (((closeP key nonce la lc).length : Int) != ((lc.length : Int) + 32))) ∧ g 106 = (bl false) ∧ g 109 = (bl ((la.length : Int) == 0)) ∧ True) ⟨s0, s1, s2, s3, s4, s5, s6, s10, s11, s12, rfl, s14, s15, rfl, s18, s20, s28, s57, s106, s109, trivial⟩ ?_
         rintro fr64 ⟨s0, s1, s2, s3, s4, s5, s6, s10, s11, s12, s13, s14, s15, s17, s18, s20, s28, s57, s106, s109, _⟩
         refine cw_seq (cw_region ?_)
         refine rM rfl s13 <| rM rfl s17 <| rw_q rfl (ev_i64_eql rfl rfl) <| rA rfl rfl ?_
         refine rw_nil (kThen_normal (cw_ret ?_))
         refine fnPost_ret [(bl ((errO key nonce (la.set ss ((la.getD ss 0) ^^^ 1#8)) (closeP key nonce la lc)) == (errO key nonce (la.set ss ((la.getD ss 0) ^^^ 1#8)) (closeP key nonce la lc))))] ⟨rfl, trivial⟩ ?_
         have hd65 : ((errO key nonce (la.set ss ((la.getD ss 0) ^^^ 1#8)) (closeP key nonce la lc)) == (errO key nonce (la.set ss ((la.getD ss 0) ^^^ 1#8)) (closeP key nonce la lc))) = true := told_true rfl
         exact ⟨congrArg bl hd65, Mem.below w0 hm63⟩


end Go.Proofs.YtmiagmbgfhakgaaDoor

