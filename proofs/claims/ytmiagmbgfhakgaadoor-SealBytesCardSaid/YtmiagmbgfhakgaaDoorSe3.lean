/- The laws of the seal: their walks, and their plain laws. Conditions: none beyond those that each theorem states. -/
import Derived.Test.YtmiagmbgfhakgaaDoorSe2
import Derived.Test.YtmiagmbgfhakgaaDoorFwL
import Derived.Test.YtmiagmbgfhakgaaDoorFwQ
namespace Go.Proofs.YtmiagmbgfhakgaaDoor
set_option linter.unusedVariables false
set_option linter.unusedSimpArgs false

theorem front_close (c t : List (BitVec 8)) (h : t.length = 32) : frontP (c ++ t) = c := by
  unfold frontP; rw [List.length_append, h, Nat.add_sub_cancel]; exact List.take_left
theorem right_close (key nonce la p : List (BitVec 8)) : rightP key nonce la (closeP key nonce la p) = true := by
  unfold rightP closeP
  rw [front_close _ _ (tagP_length _ _ _ _), List.length_append, tagP_length, Nat.add_sub_cancel, List.drop_left]
  exact beq_self_eq_true _
theorem err_close (key nonce la p : List (BitVec 8)) : errO key nonce la (closeP key nonce la p) = 0 := by
  rw [errO_told (by rw [closeP_length]; omega) (right_close key nonce la p)]; rfl
theorem cipher_twice (key nonce p : List (BitVec 8)) : cipherP key nonce (cipherP key nonce p) = p := turn_turn _ _ _ _ _
theorem open_close (key nonce la p : List (BitVec 8)) : openQ key nonce la (closeP key nonce la p) = p := by
  rw [openQ_told (by rw [closeP_length]; omega) (right_close key nonce la p)]
  show cipherP key nonce (frontP (closeP key nonce la p)) = p
  unfold closeP
  rw [front_close _ _ (tagP_length _ _ _ _), cipher_twice]
theorem bad_tag {key nonce la p : List (BitVec 8)} {j : Nat} {e : BitVec 8} (h1 : p.length ≤ j) (h2 : j < p.length + 32) (he : e ≠ 0) : errO key nonce la ((closeP key nonce la p).set j ((closeP key nonce la p).getD j 0 ^^^ e)) = 10 := by
  have hl : ((closeP key nonce la p).set j ((closeP key nonce la p).getD j 0 ^^^ e)).length = p.length + 32 := by rw [List.length_set, closeP_length]
  have hr : rightP key nonce la ((closeP key nonce la p).set j ((closeP key nonce la p).getD j 0 ^^^ e)) = false := by
    unfold rightP frontP
    rw [hl, Nat.add_sub_cancel]
    have e1 : ((closeP key nonce la p).set j ((closeP key nonce la p).getD j 0 ^^^ e)).take p.length = cipherP key nonce p := by
      rw [List.take_set_of_le h1]
      unfold closeP
      rw [← cipherP_length key nonce p, List.take_left]
    rw [e1]
    refine beq_eq_false_iff_ne.2 fun hc => he ?_
    have e2 := congrArg (fun l : List (BitVec 8) => l.getD (j - p.length) 0) hc
    simp only [List.getD_eq_getElem?_getD, List.getElem?_drop, show p.length + (j - p.length) = j by omega] at e2
    rw [List.getElem?_set_self (by rw [closeP_length]; omega)] at e2
    have e3 : (closeP key nonce la p)[j]? = (tagP key nonce la (cipherP key nonce p))[j - p.length]? := by
      unfold closeP
      rw [List.getElem?_append_right (by rw [cipherP_length]; omega), cipherP_length]
    rw [e3] at e2
    simp only [Option.getD_some] at e2
    generalize (tagP key nonce la (cipherP key nonce p))[j - p.length]?.getD 0 = q at e2
    have e4 : q ^^^ q = q ^^^ (q ^^^ e) := congrArg (q ^^^ ·) e2
    rw [BitVec.xor_self, ← BitVec.xor_assoc, BitVec.xor_self, BitVec.zero_xor] at e4
    exact e4.symm
  rw [errO_told (by rw [hl]; omega) hr]; rfl
theorem nl3 : (closeP (List.replicate 32 0#8) (List.replicate 12 0#8) [] []).length = 32 := closeP_length _ _ _ _

attribute [local irreducible] hmacP tK outK expandP extractP keysQ expandQ errK errP turnP blockP blockR msgP closeP openQ errO cipherP tagP
set_option maxHeartbeats 1000000 in
theorem c_speaks04  (w0 : World)  (hT : Tabs (blks w0)) : CallsR Tryd.prog 10 #[] w0 (fun r w1 => r = (bl true) ∧ Ext w0 w1) := by
 refine callsR_of_cw (args := []) Tryd.func10 rfl Tryd.ntmps10 Tryd.results10 rfl ?_
 have hm0 : Mem w0 (restOf w0) [] := Mem.of_world w0
 refine cw_seq (cw_region ?_)
 refine rw_q rfl (ev_assign (v := (bl false)) rfl) ?_
 refine rw_nil (kThen_normal (cw_seq (cw_region ?_)))
 refine rw_q rfl (ev_build_arr (ps := []) (c := (cl u8 (List.replicate 32 0))) ti23 uT23 ti5 (by simp) rfl) <| rw_q rfl (ev_build_arr (ps := []) (c := (cl u8 (List.replicate 12 0))) ti25 uT25 ti5 (by simp) rfl) <| rw_c rfl (opR_call Tryd.func11 bd11 nm11 (args4 rfl rfl rfl rfl) (c_seal (List.replicate 32 0) (List.replicate 12 0) (Value.slice none 0 0) ([]) (Value.slice none 0 0) ([]) _ (hT.mono fun b o e => (hm0).rest b o e) sD sD (Rd.nil _ _) sD (Rd.nil _ _) sD)) ?_
 rintro rxq2 w1 ⟨Hsq2, grxq2, k_w1⟩
 have hm1 : Mem w1 (restOf w0) (Hsq2 ++ ([])) := Mem.new (H := []) (H' := Hsq2) hm0 k_w1
 refine rA rfl (v := rxq2) rfl ?_
 refine rw_nil (kThen_normal (cw_seq (cw_region ?_)))
 refine rw_q rfl (ev_build_arr (ps := []) (c := (cl u8 (List.replicate 32 0))) ti23 uT23 ti5 (by simp) rfl) <| rw_q rfl (ev_build_arr (ps := []) (c := (cl u8 (List.replicate 12 0))) ti25 uT25 ti5 (by simp) rfl) <| rM rfl (v := rxq2) rfl <| rw_c rfl (opR_call Tryd.func12 bd12 nm12 (args4 rfl rfl rfl rfl) (c_open (List.replicate 32 0) (List.replicate 12 0) (Value.slice none 0 0) ([]) rxq2 (closeP (List.replicate 32 0) (List.replicate 12 0) ([]) ([])) _ (hT.mono fun b o e => (hm1).rest b o e) sD sD (Rd.nil _ _) sD (grxq2.rd hm1) sD)) ?_
 rintro _ w3 ⟨vxq4, Hsq4, rfl, gvxq4, k_w3⟩
 have hm3 : Mem w3 (restOf w0) (Hsq4 ++ (Hsq2 ++ ([]))) := Mem.new (H := Hsq2 ++ ([])) (H' := Hsq4) hm1 k_w3
 refine rM rfl rfl <| rw_q (v := vxq4) rfl (ev_extract rfl rfl) <| rw_q (v := (i64 (errO (List.replicate 32 0) (List.replicate 12 0) ([]) (closeP (List.replicate 32 0) (List.replicate 12 0) ([]) ([]))))) rfl (ev_extract rfl rfl) <| rA rfl (v := vxq4) rfl <| rA rfl rfl ?_
 refine rw_nil (kThen_normal ?_)
 refine CW.abs (fun g => g 0 = (bl false) ∧ g 1 = rxq2 ∧ g 2 = vxq4 ∧ g 3 = (i64 (errO (List.replicate 32 0) (List.replicate 12 0) ([]) (closeP (List.replicate 32 0) (List.replicate 12 0) ([]) ([])))) ∧ True) ⟨rfl, rfl, rfl, rfl, trivial⟩ ?_
 rintro fr5 ⟨s0, s1, s2, s3, _⟩
 refine cw_seq (cw_seq (cw_region ?_))
 refine rM rfl s1 <| rw_q (v := (i64 ((closeP (List.replicate 32 0) (List.replicate 12 0) ([]) ([])).length : Int))) rfl (ev_len_rd (grxq2.rd (Mem.pick Hsq4 Hsq2 _ hm3)) uT26 rfl) <| rw_q rfl (ev_i64_neq (b := 32) rfl rfl) <| rM rfl rfl ?_
 have hd6 : (((closeP (List.replicate 32 0) (List.replicate 12 0) ([]) ([])).length : Int) != 32) = false := told_ne (by rw [closeP_length]; rfl)
 refine rw_gyq (s := 17) rfl rfl hd6 rfl (ev_move s3) <| rw_gyq (s := 17) rfl rfl hd6 rfl (ev_i64_neq (b := 0) rfl rfl) <| rw_q rfl (ev_pick_fk rfl hd6 rfl) <| rM rfl rfl ?_
 have hd7 : ((errO (List.replicate 32 0) (List.replicate 12 0) ([]) (closeP (List.replicate 32 0) (List.replicate 12 0) ([]) ([]))) != 0) = false := told_ne (err_close _ _ _ _)
 refine rw_gyq (s := 21) rfl rfl hd7 rfl (ev_move s2) <| rw_gyq (s := 21) rfl rfl hd7 rfl (ev_len_rd (gvxq4.rd hm3) uT26 rfl) <| rw_gyq (s := 21) rfl rfl hd7 rfl (ev_i64_neq (b := 0) rfl rfl) <| rw_q rfl (ev_pick_fk rfl hd7 rfl) ?_
 refine rw_nil (kThen_normal ?_)
 refine CW.abs (fun g => g 0 = (bl false) ∧ g 1 = rxq2 ∧ g 2 = vxq4 ∧ g 3 = (i64 (errO (List.replicate 32 0) (List.replicate 12 0) ([]) (closeP (List.replicate 32 0) (List.replicate 12 0) ([]) ([])))) ∧ g 25 = (bl (((openQ (List.replicate 32 0) (List.replicate 12 0) ([]) (closeP (List.replicate 32 0) (List.replicate 12 0) ([]) ([]))).length : Int) != 0)) ∧ True) ⟨s0, s1, s2, s3, rfl, trivial⟩ ?_
 rintro fr8 ⟨s0, s1, s2, s3, s25, _⟩
 have hd9 : (((openQ (List.replicate 32 0) (List.replicate 12 0) ([]) (closeP (List.replicate 32 0) (List.replicate 12 0) ([]) ([]))).length : Int) != 0) = false := told_ne (by rw [open_close]; rfl)
 refine cw_cond_f s25 hd9 ?_
 refine cw_skip (kThen_normal (cw_seq ?_))
 have hnl := nl3
 refine cw_region <| rM rfl s1 <| rw_q rfl (ev_indexAddr_rdv (i := 3) (grxq2.rd (Mem.pick Hsq4 Hsq2 _ hm3)) uT26 ti5 rfl rfl oM sD) <| rw_q (v := (u8 ((closeP (List.replicate 32 0) (List.replicate 12 0) ([]) ([])).getD 3 0))) rfl (ev_load_rdD (l := closeP (List.replicate 32 0) (List.replicate 12 0) ([]) ([])) (i := 3) (dflt := 0) (grxq2.rd (Mem.pick Hsq4 Hsq2 _ hm3)) uT5 rfl oM sD rfl) <| rw_q rfl (ev_u8_xor (b := 4#8) rfl rfl) <| rw_q rfl (ev_indexAddr_rdv (i := 3) (grxq2.rd (Mem.pick Hsq4 Hsq2 _ hm3)) uT26 ti5 rfl rfl oM sD) ?_
 refine rw_n (or_store_grow (Hs := Hsq2) (H := Hsq4 ++ ([])) (i := 3) (a := ((closeP (List.replicate 32 0) (List.replicate 12 0) ([]) ([])).getD 3 0) ^^^ 4#8) (Mem.pick Hsq4 Hsq2 _ hm3) grxq2 u8_one ti5 oM sD rfl rfl) ?_
 rintro _ w10 ⟨Hs10, hm10, g10⟩
 replace g10 : Grow u8 5 rxq2 ((closeP (List.replicate 32 0) (List.replicate 12 0) ([]) ([])).set 3 (((closeP (List.replicate 32 0) (List.replicate 12 0) ([]) ([])).getD 3 0) ^^^ 4#8)) Hs10 := g10
 refine rw_nil (kThen_normal (cw_seq ?_))
 have hnl := nl3
 refine cw_region <| rw_q rfl (ev_build_arr (ps := []) (c := (cl u8 (List.replicate 32 0))) ti23 uT23 ti5 (by simp) rfl) <| rw_q rfl (ev_build_arr (ps := []) (c := (cl u8 (List.replicate 12 0))) ti25 uT25 ti5 (by simp) rfl) <| rM rfl s1 <| rw_c rfl (opR_call Tryd.func12 bd12 nm12 (args4 rfl rfl rfl rfl) (c_open (List.replicate 32 0) (List.replicate 12 0) (Value.slice none 0 0) ([]) rxq2 ((closeP (List.replicate 32 0) (List.replicate 12 0) ([]) ([])).set 3 (((closeP (List.replicate 32 0) (List.replicate 12 0) ([]) ([])).getD 3 0) ^^^ 4#8)) _ (hT.mono fun b o e => (hm10).rest b o e) sD sD (Rd.nil _ _) sD (g10.rd hm10) sD)) ?_
 rintro _ w11 ⟨vxq12, Hsq12, rfl, gvxq12, k_w11⟩
 have hm11 : Mem w11 (restOf w0) (Hsq12 ++ (Hs10 ++ (Hsq4 ++ ([])))) := Mem.new (H := Hs10 ++ (Hsq4 ++ ([]))) (H' := Hsq12) hm10 k_w11
 refine rM rfl rfl <| rw_q (v := vxq12) rfl (ev_extract rfl rfl) <| rw_q (v := (i64 (errO (List.replicate 32 0) (List.replicate 12 0) ([]) ((closeP (List.replicate 32 0) (List.replicate 12 0) ([]) ([])).set 3 (((closeP (List.replicate 32 0) (List.replicate 12 0) ([]) ([])).getD 3 0) ^^^ 4#8))))) rfl (ev_extract rfl rfl) <| rA rfl rfl ?_
 refine rw_nil (kThen_normal ?_)
 have hm13 := Mem.drop Hsq12 _ hm11
 refine CW.abs (fun g => g 0 = (bl false) ∧ g 1 = rxq2 ∧ g 2 = vxq4 ∧ g 3 = (i64 (errO (List.replicate 32 0) (List.replicate 12 0) ([]) ((closeP (List.replicate 32 0) (List.replicate 12 0) ([]) ([])).set 3 (((closeP (List.replicate 32 0) (List.replicate 12 0) ([]) ([])).getD 3 0) ^^^ 4#8)))) ∧ g 25 = (bl (((openQ (List.replicate 32 0) (List.replicate 12 0) ([]) (closeP (List.replicate 32 0) (List.replicate 12 0) ([]) ([]))).length : Int) != 0)) ∧ True) ⟨s0, s1, s2, rfl, s25, trivial⟩ ?_
 rintro fr14 ⟨s0, s1, s2, s3, s25, _⟩
 refine cw_seq (cw_region ?_)
 refine rM rfl s3 <| rw_q rfl (ev_i64_eql (b := 10) rfl rfl) <| rM rfl rfl ?_
 have hd15 : ((errO (List.replicate 32 0) (List.replicate 12 0) ([]) ((closeP (List.replicate 32 0) (List.replicate 12 0) ([]) ([])).set 3 (((closeP (List.replicate 32 0) (List.replicate 12 0) ([]) ([])).getD 3 0) ^^^ 4#8))) == 10) = true := told_true (bad_tag (Nat.zero_le _) (by decide) (by decide))
 refine rw_gy (s := 40) rfl rfl hd15 rfl (or_buildSlice_cl u8 [1#8] u8_one hm13 uT26 ti5 rfl rfl rfl) ?_
 rintro _ w16 ⟨b41, rfl, _ew16, hm16⟩
 refine rw_gy (s := 40) rfl rfl hd15 rfl (or_buildSlice_cl u8 [1#8] u8_one hm16 uT26 ti5 rfl rfl rfl) ?_
 rintro _ w17 ⟨b42, rfl, _ew17, hm17⟩
 refine rw_gy (s := 40) rfl rfl hd15 rfl (opR_call Tryd.func18 bd18 nm18 (args2 rfl rfl) (c_ssame (slc b41 0 1 1) (slc b42 0 1 1) ([1#8]) ([1#8]) _ (Rd.mkA hm17.h1) (Rd.mkA hm17.h0) sD)) ?_
 rintro _ w18 ⟨rfl, _ew18⟩
 have hm18 := hm17.ext _ew18
 refine rw_q rfl (ev_pick_tk rfl hd15 rfl) <| rw_q rfl (ev_move (v := (bl (([1#8]) == ([1#8])))) rfl) ?_
 have hd20 : (([1#8]) == ([1#8])) = true := told_true rfl
 refine rw_gy (s := 45) rfl rfl hd20 rfl (or_buildSlice_cl u8 [1#8] u8_one hm18 uT26 ti5 rfl rfl rfl) ?_
 rintro _ w21 ⟨b46, rfl, _ew21, hm21⟩
 refine rw_gy (s := 45) rfl rfl hd20 rfl (opR_call Tryd.func18 bd18 nm18 (args2 rfl rfl) (c_ssame (slc b46 0 1 1) (Value.slice none 0 0) ([1#8]) ([]) _ (Rd.mkA hm21.h0) (Rd.nil _ _) sD)) ?_
 rintro _ w22 ⟨rfl, _ew22⟩
 have hm22 := hm21.ext _ew22
 refine rw_gyq (s := 45) rfl rfl hd20 rfl (ev_not rfl) <| rw_q rfl (ev_pick_tk rfl hd20 rfl) <| rw_q rfl (ev_assign (v := (bl (!(([1#8]) == ([]))))) rfl) ?_
 refine rw_nil (kThen_normal ?_)
 have hm24 := Mem.drop ([(b46, .cells (cl u8 ([1#8])) 5 (0, 0))]) _ hm22
 have hm25 := Mem.drop ([(b42, .cells (cl u8 ([1#8])) 5 (0, 0))]) _ hm24
 have hm26 := Mem.drop ([(b41, .cells (cl u8 ([1#8])) 5 (0, 0))]) _ hm25
 refine CW.abs (fun g => g 0 = (bl (!(([1#8]) == ([])))) ∧ g 1 = rxq2 ∧ g 2 = vxq4 ∧ g 3 = (i64 (errO (List.replicate 32 0) (List.replicate 12 0) ([]) ((closeP (List.replicate 32 0) (List.replicate 12 0) ([]) ([])).set 3 (((closeP (List.replicate 32 0) (List.replicate 12 0) ([]) ([])).getD 3 0) ^^^ 4#8)))) ∧ g 25 = (bl (((openQ (List.replicate 32 0) (List.replicate 12 0) ([]) (closeP (List.replicate 32 0) (List.replicate 12 0) ([]) ([]))).length : Int) != 0)) ∧ True) ⟨rfl, s1, s2, s3, s25, trivial⟩ ?_
 rintro fr27 ⟨s0, s1, s2, s3, s25, _⟩
 refine cw_ret <| fnPost_ret [(bl (!(([1#8]) == ([]))))] ⟨s0, trivial⟩ ?_
 exact ⟨congrArg bl (by decide), hm26.toExt⟩

set_option maxHeartbeats 2000000 in
theorem law_sbytes (key : List (BitVec 8)) (nonce : List (BitVec 8)) (va : Value) (la : List (BitVec 8)) (vc : Value) (lc : List (BitVec 8)) (w0 : World)  (hT : Tabs (blks w0)) (hk : key.length = 32) (hn : nonce.length = 12) (hra : Rd (blks w0) u8 va la) (hlhra : la.length ≤ 9223372036854775807) (hrc : Rd (blks w0) u8 vc lc) (hlhrc : lc.length ≤ 9223372036854775807) : CallsR Tryd.prog 3 #[(agg u8 key), (agg u8 nonce), va, vc] w0 (fun r w1 => r = bl true ∧ RowKit.Below w0.heap.size w0 w1) := by
 refine callsR_of_cw (args := [(agg u8 key), (agg u8 nonce), va, vc]) Tryd.func3 rfl Tryd.ntmps3 Tryd.results3 rfl ?_
 have hm0 : Mem w0 (restOf w0) [] := Mem.of_world w0
 refine cw_seq (cw_region ?_)
 refine rw_c rfl (or_box_agg (f := u8) (l := key) hm0 rfl) ?_
 rintro _ w1 ⟨b4, rfl, _ew1, hm1⟩
 refine rw_c rfl (or_box_agg (f := u8) (l := nonce) hm1 rfl) ?_
 rintro _ w2 ⟨b5, rfl, _ew2, hm2⟩
 refine rw_q rfl (ev_assign (v := (bl false)) rfl) ?_
 refine rw_nil (kThen_normal (cw_seq (cw_seq (cw_region ?_))))
 refine rw_c rfl (opR_call Tryd.func10 bd10 nm10 (args0) (c_speaks04 _ (hT.mono fun b o e => (hm2).rest b o e))) ?_
 rintro _ w3 ⟨rfl, _ew3⟩
 have hm3 := hm2.ext _ew3
 refine rw_q (v := (bl false)) rfl (ev_not (b := true) rfl) ?_
 refine rw_nil (kThen_normal ?_)
 refine cw_cond_f rfl (by decide) ?_
 refine cw_skip (kThen_normal (cw_seq (cw_seq (cw_region ?_))))
 refine rM rfl (v := va) rfl <| rw_q (v := (i64 (la.length : Int))) rfl (ev_len_rd (Rd.ofRest hra hm3) uT26 rfl) <| rw_q rfl (ev_i64_gtr (b := 500) rfl rfl) <| rw_q rfl (ev_move (v := (bl (decide (500 < (la.length : Int))))) rfl) ?_
 rcases Bool.eq_false_or_eq_true (decide (500 < (la.length : Int))) with hb5 | hb5
 · -- true
   have hb5p := of_decide_eq_true hb5
   refine rw_gn (s := 21) rfl rfl hb5 rfl <| rw_gn (s := 21) rfl rfl hb5 rfl <| rw_gn (s := 21) rfl rfl hb5 rfl <| rw_q rfl (ev_pick_tk rfl hb5 rfl) ?_
   refine rw_nil (kThen_normal ?_)
   refine CW.abs (fun g => g 0 = (agg u8 key) ∧ g 1 = (agg u8 nonce) ∧ g 2 = va ∧ g 3 = vc ∧ g 4 = (ptr b4 0) ∧ g 5 = (ptr b5 0) ∧ g 8 = (bl false) ∧ g 17 = (bl false) ∧ g 25 = (bl true) ∧ True) ⟨rfl, rfl, rfl, rfl, rfl, rfl, rfl, rfl, rfl, trivial⟩ ?_
   rintro fr6 ⟨s0, s1, s2, s3, s4, s5, s8, s17, s25, _⟩
   refine cw_cond_t s25 (by decide) ?_
   refine cw_seq (cw_region ?_)
   refine rw_q rfl (ev_assign (v := (bl true)) rfl) ?_
   refine rw_nil (kThen_normal (cw_ret (kThen_ret ?_)))
   refine fnPost_ret [(bl true)] ⟨rfl, trivial⟩ ?_
   exact ⟨rfl, Mem.below w0 hm3⟩
 · -- false
   have hb5p := of_decide_eq_false hb5
   refine rw_gyq (s := 21) rfl rfl hb5 rfl (ev_move (v := vc) rfl) <| rw_gyq (s := 21) rfl rfl hb5 rfl (ev_len_rd (Rd.ofRest hrc hm3) uT26 rfl) <| rw_gyq (s := 21) rfl rfl hb5 rfl (ev_i64_gtr (b := 2000) rfl rfl) <| rw_q rfl (ev_pick_fk rfl hb5 rfl) ?_
   refine rw_nil (kThen_normal ?_)
   refine CW.abs (fun g => g 0 = (agg u8 key) ∧ g 1 = (agg u8 nonce) ∧ g 2 = va ∧ g 3 = vc ∧ g 4 = (ptr b4 0) ∧ g 5 = (ptr b5 0) ∧ g 8 = (bl false) ∧ g 17 = (bl false) ∧ g 25 = (bl (decide (2000 < (lc.length : Int)))) ∧ True) ⟨rfl, rfl, rfl, rfl, rfl, rfl, rfl, rfl, rfl, trivial⟩ ?_
   rintro fr7 ⟨s0, s1, s2, s3, s4, s5, s8, s17, s25, _⟩
   refine cw_cond s25 (fun hc8 => ?_) (fun hc8 => ?_)
   · -- true
     have hc8p := of_decide_eq_true hc8
     refine cw_seq (cw_region ?_)
     refine rw_q rfl (ev_assign (v := (bl true)) rfl) ?_
     refine rw_nil (kThen_normal (cw_ret (kThen_ret ?_)))
     refine fnPost_ret [(bl true)] ⟨rfl, trivial⟩ ?_
     exact ⟨rfl, Mem.below w0 hm3⟩
   · -- false
     have hc8p := of_decide_eq_false hc8
     refine cw_skip (kThen_normal (cw_seq (cw_region ?_)))
     refine rw_c rfl (or_buildSlice_cl u8 [] u8_one hm3 uT26 ti5 rfl (by simp [pairs]) rfl) ?_
     rintro _ w9 ⟨b26, rfl, _ew9, hm9⟩
     refine rM rfl s3 <| rw_c rfl (or_append (f := u8) (Hs := [(b26, .cells (cl u8 ([])) 5 (0, 0))]) (H := [(b5, .cells (cl u8 nonce) 25 (0, 0)), (b4, .cells (cl u8 key) 23 (0, 0))]) hm9 (Grow.of u8 5 b26 ([])) rfl rfl (Rd.ofRest hrc hm9) uT26 uT26 ti5 rfl u8_one sD sD) ?_
     rintro sv10 w10 ⟨Hs10, hm10, g10⟩
     replace g10 : Grow u8 5 sv10 lc Hs10 := g10
     refine rw_c rfl (or_buildSlice_cl u8 [] u8_one hm10 uT26 ti5 rfl (by simp [pairs]) rfl) ?_
     rintro _ w11 ⟨b29, rfl, _ew11, hm11⟩
     refine rM rfl s2 <| rw_c rfl (or_append (f := u8) (Hs := [(b29, .cells (cl u8 ([])) 5 (0, 0))]) (H := Hs10 ++ ([(b5, .cells (cl u8 nonce) 25 (0, 0)), (b4, .cells (cl u8 key) 23 (0, 0))])) hm11 (Grow.of u8 5 b29 ([])) rfl rfl (Rd.ofRest hra hm11) uT26 uT26 ti5 rfl u8_one sD sD) ?_
     rintro sv12 w12 ⟨Hs12, hm12, g12⟩
     replace g12 : Grow u8 5 sv12 la Hs12 := g12
     refine rA rfl (v := sv10) rfl <| rA rfl (v := sv12) rfl ?_
     refine rw_nil (kThen_normal (cw_seq (cw_region ?_)))
     refine rw_q (v := (agg u8 key)) rfl (ev_loadA uT23 rfl ti23 s4 ((Mem.pick3 Hs12 Hs10 [_] [_] _ hm12)).h0 sZ) <| rw_q (v := (agg u8 nonce)) rfl (ev_loadA uT25 rfl ti25 s5 ((Mem.pick2 Hs12 Hs10 [_] _ hm12)).h0 sZ) <| rM rfl (v := sv12) rfl <| rM rfl (v := sv10) rfl <| rw_c rfl (opR_call Tryd.func11 bd11 nm11 (args4 rfl rfl rfl rfl) (c_seal key nonce sv12 la sv10 lc _ (hT.mono fun b o e => (hm12).rest b o e) sD sD (g12.rd hm12) sD (g10.rd (Mem.pick Hs12 Hs10 _ hm12)) sD)) ?_
     rintro rxq14 w13 ⟨Hsq14, grxq14, k_w13⟩
     have hm13 : Mem w13 (restOf w0) (Hsq14 ++ (Hs12 ++ (Hs10 ++ ([(b5, .cells (cl u8 nonce) 25 (0, 0)), (b4, .cells (cl u8 key) 23 (0, 0))])))) := Mem.new (H := Hs12 ++ (Hs10 ++ ([(b5, .cells (cl u8 nonce) 25 (0, 0)), (b4, .cells (cl u8 key) 23 (0, 0))]))) (H' := Hsq14) hm12 k_w13
     refine rA rfl (v := rxq14) rfl ?_
     refine rw_nil (kThen_normal ?_)
     refine CW.abs (fun g => g 0 = (agg u8 key) ∧ g 1 = (agg u8 nonce) ∧ g 2 = va ∧ g 3 = vc ∧ g 4 = (ptr b4 0) ∧ g 5 = (ptr b5 0) ∧ g 8 = (bl false) ∧ g 9 = sv10 ∧ g 10 = sv12 ∧ g 11 = rxq14 ∧ g 17 = (bl false) ∧ g 25 = (bl (decide (2000 < (lc.length : Int)))) ∧ True) ⟨s0, s1, s2, s3, s4, s5, s8, rfl, rfl, rfl, s17, s25, trivial⟩ ?_
     rintro fr15 ⟨s0, s1, s2, s3, s4, s5, s8, s9, s10, s11, s17, s25, _⟩
     refine cw_seq (cw_region ?_)
     refine rw_q (v := (agg u8 key)) rfl (ev_loadA uT23 rfl ti23 s4 ((Mem.pick4 Hsq14 Hs12 Hs10 [_] [_] _ hm13)).h0 sZ) <| rw_q (v := (agg u8 nonce)) rfl (ev_loadA uT25 rfl ti25 s5 ((Mem.pick3 Hsq14 Hs12 Hs10 [_] _ hm13)).h0 sZ) <| rM rfl s10 <| rM rfl s9 <| rw_c rfl (opR_call Tryd.func12 bd12 nm12 (args4 rfl rfl rfl rfl) (c_open key nonce sv12 la sv10 lc _ (hT.mono fun b o e => (hm13).rest b o e) sD sD (g12.rd (Mem.pick Hsq14 Hs12 _ hm13)) sD (g10.rd (Mem.pick2 Hsq14 Hs12 Hs10 _ hm13)) sD)) ?_
     rintro _ w16 ⟨vxq17, Hsq17, rfl, gvxq17, k_w16⟩
     have hm16 : Mem w16 (restOf w0) (Hsq17 ++ (Hsq14 ++ (Hs12 ++ (Hs10 ++ ([(b5, .cells (cl u8 nonce) 25 (0, 0)), (b4, .cells (cl u8 key) 23 (0, 0))]))))) := Mem.new (H := Hsq14 ++ (Hs12 ++ (Hs10 ++ ([(b5, .cells (cl u8 nonce) 25 (0, 0)), (b4, .cells (cl u8 key) 23 (0, 0))])))) (H' := Hsq17) hm13 k_w16
     refine rw_q rfl (ev_move (v := (Value.tuple #[vxq17, (i64 (errO key nonce la lc))])) rfl) <| rw_q (v := vxq17) rfl (ev_extract rfl rfl) <| rw_q (v := (i64 (errO key nonce la lc))) rfl (ev_extract rfl rfl) <| rA rfl (v := vxq17) rfl <| rw_q rfl (ev_assign (v := (i64 (errO key nonce la lc))) rfl) ?_
     refine rw_nil (kThen_normal (cw_seq (cw_region ?_)))
     refine rw_q (v := (agg u8 key)) rfl (ev_loadA uT23 rfl ti23 s4 ((Mem.pick5 Hsq17 Hsq14 Hs12 Hs10 [_] [_] _ hm16)).h0 sZ) <| rw_q (v := (agg u8 nonce)) rfl (ev_loadA uT25 rfl ti25 s5 ((Mem.pick4 Hsq17 Hsq14 Hs12 Hs10 [_] _ hm16)).h0 sZ) <| rM rfl s2 <| rM rfl s3 <| rw_c rfl (opR_call Tryd.func13 bd13 nm13 (args4 rfl rfl rfl rfl) (c_ropen key nonce va la vc lc _ sD sD (Rd.ofRest hra hm16) sD (Rd.ofRest hrc hm16) sD)) ?_
     rintro _ w18 ⟨vxq19, Hsq19, rfl, gvxq19, k_w18⟩
     have hm18 : Mem w18 (restOf w0) (Hsq19 ++ (Hsq17 ++ (Hsq14 ++ (Hs12 ++ (Hs10 ++ ([(b5, .cells (cl u8 nonce) 25 (0, 0)), (b4, .cells (cl u8 key) 23 (0, 0))])))))) := Mem.new (H := Hsq17 ++ (Hsq14 ++ (Hs12 ++ (Hs10 ++ ([(b5, .cells (cl u8 nonce) 25 (0, 0)), (b4, .cells (cl u8 key) 23 (0, 0))]))))) (H' := Hsq19) hm16 k_w18
     refine rw_q rfl (ev_move (v := (Value.tuple #[vxq19, (i64 (errO key nonce la lc))])) rfl) <| rw_q (v := vxq19) rfl (ev_extract rfl rfl) <| rw_q (v := (i64 (errO key nonce la lc))) rfl (ev_extract rfl rfl) <| rA rfl (v := vxq19) rfl <| rw_q rfl (ev_assign (v := (i64 (errO key nonce la lc))) rfl) ?_
     refine rw_nil (kThen_normal ?_)
     refine CW.abs (fun g => g 0 = (agg u8 key) ∧ g 1 = (agg u8 nonce) ∧ g 2 = va ∧ g 3 = vc ∧ g 4 = (ptr b4 0) ∧ g 5 = (ptr b5 0) ∧ g 8 = (bl false) ∧ g 9 = sv10 ∧ g 10 = sv12 ∧ g 11 = rxq14 ∧ g 12 = vxq17 ∧ g 13 = (i64 (errO key nonce la lc)) ∧ g 14 = vxq19 ∧ g 15 = (i64 (errO key nonce la lc)) ∧ g 17 = (bl false) ∧ g 25 = (bl (decide (2000 < (lc.length : Int)))) ∧ True) ⟨s0, s1, s2, s3, s4, s5, s8, s9, s10, s11, rfl, rfl, rfl, rfl, s17, s25, trivial⟩ ?_
     rintro fr20 ⟨s0, s1, s2, s3, s4, s5, s8, s9, s10, s11, s12, s13, s14, s15, s17, s25, _⟩
     refine cw_seq (cw_seq ?_)
     have hol := openQ_le key nonce la lc
     refine cw_region <| rM rfl s11 <| rw_q (v := (agg u8 key)) rfl (ev_loadA uT23 rfl ti23 s4 ((Mem.pick6 Hsq19 Hsq17 Hsq14 Hs12 Hs10 [_] [_] _ hm18)).h0 sZ) <| rw_q (v := (agg u8 nonce)) rfl (ev_loadA uT25 rfl ti25 s5 ((Mem.pick5 Hsq19 Hsq17 Hsq14 Hs12 Hs10 [_] _ hm18)).h0 sZ) <| rM rfl s2 <| rM rfl s3 ?_
     refine rw_c rfl (opR_call Tryd.func15 bd15 nm15 (args4 rfl rfl rfl rfl) (c_rseal key nonce va la vc lc _ sD sD (Rd.ofRest hra hm18) sD (Rd.ofRest hrc hm18) sD)) ?_
     rintro rxq22 w21 ⟨Hsq22, grxq22, k_w21⟩
     have hm21 : Mem w21 (restOf w0) (Hsq22 ++ (Hsq19 ++ (Hsq17 ++ (Hsq14 ++ (Hs12 ++ (Hs10 ++ ([(b5, .cells (cl u8 nonce) 25 (0, 0)), (b4, .cells (cl u8 key) 23 (0, 0))]))))))) := Mem.new (H := Hsq19 ++ (Hsq17 ++ (Hsq14 ++ (Hs12 ++ (Hs10 ++ ([(b5, .cells (cl u8 nonce) 25 (0, 0)), (b4, .cells (cl u8 key) 23 (0, 0))])))))) (H' := Hsq22) hm18 k_w21
     refine rw_c rfl (opR_call Tryd.func14 bd14 nm14 (args2 rfl rfl) (c_same rxq14 rxq22 (closeP key nonce la lc) (closeP key nonce la lc) _ (grxq14.rd (Mem.pick3 Hsq22 Hsq19 Hsq17 Hsq14 _ hm21)) (grxq22.rd hm21) sD)) ?_
     rintro _ w23 ⟨rfl, _ew23⟩
     have hm23 := hm21.ext _ew23
     refine rw_q rfl (ev_not rfl) <| rw_q rfl (ev_move (v := (bl (!((closeP key nonce la lc) == (closeP key nonce la lc))))) rfl) ?_
     have hd25 : ((closeP key nonce la lc) == (closeP key nonce la lc)) = true := told_true rfl
     have hd26 : (!((closeP key nonce la lc) == (closeP key nonce la lc))) = false := congrArg Bool.not hd25
     refine rw_gyq (s := 61) rfl rfl hd26 rfl (ev_move s13) <| rw_gyq (s := 61) rfl rfl hd26 rfl (ev_move s15) <| rw_gyq (s := 61) rfl rfl hd26 rfl (ev_i64_neq rfl rfl) <| rw_q rfl (ev_pick_fk rfl hd26 rfl) <| rw_q rfl (ev_move (v := (bl ((errO key nonce la lc) != (errO key nonce la lc)))) rfl) ?_
     have hd27 : ((errO key nonce la lc) != (errO key nonce la lc)) = false := told_ne rfl
     refine rw_gyq (s := 66) rfl rfl hd27 rfl (ev_move s12) <| rw_gyq (s := 66) rfl rfl hd27 rfl (ev_move s14) <| rw_gy (s := 66) rfl rfl hd27 rfl (opR_call Tryd.func14 bd14 nm14 (args2 rfl rfl) (c_same vxq17 vxq19 (openQ key nonce la lc) (openQ key nonce la lc) _ (gvxq17.rd (Mem.pick2 Hsq22 Hsq19 Hsq17 _ hm23)) (gvxq19.rd (Mem.pick Hsq22 Hsq19 _ hm23)) sD)) ?_
     rintro _ w28 ⟨rfl, _ew28⟩
     have hm28 := hm23.ext _ew28
     refine rw_gyq (s := 66) rfl rfl hd27 rfl (ev_not rfl) <| rw_q rfl (ev_pick_fk rfl hd27 rfl) ?_
     refine rw_nil (kThen_normal ?_)
     have hm30 := Mem.drop Hsq22 _ hm28
     refine CW.abs (fun g => g 0 = (agg u8 key) ∧ g 1 = (agg u8 nonce) ∧ g 2 = va ∧ g 3 = vc ∧ g 4 = (ptr b4 0) ∧ g 5 = (ptr b5 0) ∧ g 8 = (bl false) ∧ g 9 = sv10 ∧ g 10 = sv12 ∧ g 11 = rxq14 ∧ g 12 = vxq17 ∧ g 13 = (i64 (errO key nonce la lc)) ∧ g 14 = vxq19 ∧ g 15 = (i64 (errO key nonce la lc)) ∧ g 17 = (bl false) ∧ g 25 = (bl (decide (2000 < (lc.length : Int)))) ∧ g 71 = (bl (!((openQ key nonce la lc) == (openQ key nonce la lc)))) ∧ True) ⟨s0, s1, s2, s3, s4, s5, s8, s9, s10, s11, s12, s13, s14, s15, s17, s25, rfl, trivial⟩ ?_
     rintro fr31 ⟨s0, s1, s2, s3, s4, s5, s8, s9, s10, s11, s12, s13, s14, s15, s17, s25, s71, _⟩
     have hd32 : ((openQ key nonce la lc) == (openQ key nonce la lc)) = true := told_true rfl
     have hd33 : (!((openQ key nonce la lc) == (openQ key nonce la lc))) = false := congrArg Bool.not hd32
     refine cw_cond_f s71 hd33 ?_
     refine cw_skip (kThen_normal (cw_seq ?_))
     refine cw_draw [(0, false), (1, false), (2, false), (3, false), (4, false), (5, false), (6, false), (7, false), (8, false), (9, false), (10, false), (11, false), (13, false), (14, false), (15, false), (12, true)] 16 (by kernel_rfl) <| dM rfl rfl s9 <| dM rfl rfl s3 <| dw_x (v := (bl (lc == lc))) rfl rfl (fun w34 _ew34 => OpR.mono (opR_call Tryd.func14 bd14 nm14 (args2 rfl rfl) (c_same sv10 vc lc lc _ (g10.rd (Mem.pick4 Hsq19 Hsq17 Hsq14 Hs12 Hs10 _ (hm30.ext _ew34))) (Rd.ofRest hrc (hm30.ext _ew34)) sD)) (by rintro _ w35 ⟨rfl, _ew35⟩; exact ⟨rfl, _ew35⟩)) <| dw_q rfl rfl (fun _ _hx => ev_move (v := (bl (lc == lc))) rfl) ?_
     have hd37 : (lc == lc) = true := told_true rfl
     refine dw_gqy (s := 75) rfl rfl rfl hd37 rfl (fun _ _hx => ev_move s10) <| dw_gqy (s := 75) rfl rfl rfl hd37 rfl (fun _ _hx => ev_move s2) <| dw_gxy (s := 75) (v := (bl (la == la))) rfl rfl rfl hd37 rfl (fun w38 _ew38 => OpR.mono (opR_call Tryd.func14 bd14 nm14 (args2 rfl rfl) (c_same sv12 va la la _ (g12.rd (Mem.pick3 Hsq19 Hsq17 Hsq14 Hs12 _ (hm30.ext _ew38))) (Rd.ofRest hra (hm30.ext _ew38)) sD)) (by rintro _ w39 ⟨rfl, _ew39⟩; exact ⟨rfl, _ew39⟩)) <| dw_q rfl rfl (fun _ _hx => ev_pick_tk rfl hd37 rfl) <| dw_q rfl rfl (fun _ _hx => ev_move (v := (bl (la == la))) rfl) ?_
     have hd41 : (la == la) = true := told_true rfl
     refine dw_gqy (s := 80) rfl rfl rfl hd41 rfl (fun _ _hx => ev_loadA uT25 rfl ti25 s5 ((Mem.pick5 Hsq19 Hsq17 Hsq14 Hs12 Hs10 [_] _ (hm30.ext _hx))).h0 sZ) <| dw_gqy (s := 80) rfl rfl rfl hd41 rfl (fun _ _hx => ev_move s2) <| dw_gqy (s := 80) rfl rfl rfl hd41 rfl (fun _ _hx => ev_move s3) <| dw_gqy (s := 80) rfl rfl rfl hd41 rfl (fun _ _hx => ev_loadA uT25 rfl ti25 s5 ((Mem.pick5 Hsq19 Hsq17 Hsq14 Hs12 Hs10 [_] _ (hm30.ext _hx))).h0 sZ) <| dw_gqy (s := 80) rfl rfl rfl hd41 rfl (fun _ _hx => ev_move s2) <| dw_gqy (s := 80) rfl rfl rfl hd41 rfl (fun _ _hx => ev_move s3) ?_
     refine dw_gcy (s := 80) rfl rfl rfl hd41 rfl (fun w42 _ew42 => ?_)
     have hm42 := hm30.ext _ew42
     refine OpR.mono (opR_call Tryd.func16 bd16 nm16 (args3 rfl rfl rfl) (c_message nonce va la vc lc _ sD (Rd.ofRest hra hm42) sD (Rd.ofRest hrc hm42) sD)) ?_
     rintro rxq44 w43 ⟨Hsq44, grxq44, k_w43⟩
     refine ⟨k_w43.toExt, ?_⟩
     have hm43 : Mem w43 (restOf w0) (Hsq44 ++ (Hsq19 ++ (Hsq17 ++ (Hsq14 ++ (Hs12 ++ (Hs10 ++ ([(b5, .cells (cl u8 nonce) 25 (0, 0)), (b4, .cells (cl u8 key) 23 (0, 0))]))))))) := Mem.new (H := Hsq19 ++ (Hsq17 ++ (Hsq14 ++ (Hs12 ++ (Hs10 ++ ([(b5, .cells (cl u8 nonce) 25 (0, 0)), (b4, .cells (cl u8 key) 23 (0, 0))])))))) (H' := Hsq44) hm42 k_w43
     refine dw_nil (fun w45 _ew45 => ?_)
     have hm45 := hm43.ext _ew45
     refine rw_gy (s := 80) rfl rfl hd41 rfl (opR_call Tryd.func17 bd17 nm17 (args3 rfl rfl rfl) (c_rmessage nonce va la vc lc _ sD (Rd.ofRest hra hm45) sD (Rd.ofRest hrc hm45) sD)) ?_
     rintro rxq47 w46 ⟨Hsq47, grxq47, k_w46⟩
     have hm46 : Mem w46 (restOf w0) (Hsq47 ++ (Hsq44 ++ (Hsq19 ++ (Hsq17 ++ (Hsq14 ++ (Hs12 ++ (Hs10 ++ ([(b5, .cells (cl u8 nonce) 25 (0, 0)), (b4, .cells (cl u8 key) 23 (0, 0))])))))))) := Mem.new (H := Hsq44 ++ (Hsq19 ++ (Hsq17 ++ (Hsq14 ++ (Hs12 ++ (Hs10 ++ ([(b5, .cells (cl u8 nonce) 25 (0, 0)), (b4, .cells (cl u8 key) 23 (0, 0))]))))))) (H' := Hsq47) hm45 k_w46
     refine rw_gy (s := 80) rfl rfl hd41 rfl (opR_call Tryd.func14 bd14 nm14 (args2 rfl rfl) (c_same rxq44 rxq47 (msgP nonce la lc) (msgP nonce la lc) _ (grxq44.rd (Mem.pick Hsq47 Hsq44 _ hm46)) (grxq47.rd hm46) sD)) ?_
     rintro _ w48 ⟨rfl, _ew48⟩
     have hm48 := hm46.ext _ew48
     refine rw_q rfl (ev_pick_tk rfl hd41 rfl) <| rw_q rfl (ev_assign (v := (bl ((msgP nonce la lc) == (msgP nonce la lc)))) rfl) ?_
     refine rw_nil (kThen_normal ?_)
     have hm50 := Mem.drop Hsq47 _ hm48
     have hm51 := Mem.drop Hsq44 _ hm50
     refine CW.abs (fun g => g 0 = (agg u8 key) ∧ g 1 = (agg u8 nonce) ∧ g 2 = va ∧ g 3 = vc ∧ g 4 = (ptr b4 0) ∧ g 5 = (ptr b5 0) ∧ g 8 = (bl ((msgP nonce la lc) == (msgP nonce la lc))) ∧ g 9 = sv10 ∧ g 10 = sv12 ∧ g 11 = rxq14 ∧ g 12 = vxq17 ∧ g 13 = (i64 (errO key nonce la lc)) ∧ g 14 = vxq19 ∧ g 15 = (i64 (errO key nonce la lc)) ∧ g 17 = (bl false) ∧ g 25 = (bl (decide (2000 < (lc.length : Int)))) ∧ g 71 = (bl (!((openQ key nonce la lc) == (openQ key nonce la lc)))) ∧ True) ⟨s0, s1, s2, s3, s4, s5, rfl, s9, s10, s11, s12, s13, s14, s15, s17, s25, s71, trivial⟩ ?_
     rintro fr52 ⟨s0, s1, s2, s3, s4, s5, s8, s9, s10, s11, s12, s13, s14, s15, s17, s25, s71, _⟩
     refine cw_ret <| fnPost_ret [(bl ((msgP nonce la lc) == (msgP nonce la lc)))] ⟨s8, trivial⟩ ?_
     have hd53 : ((msgP nonce la lc) == (msgP nonce la lc)) = true := told_true rfl
     exact ⟨congrArg bl hd53, Mem.below w0 hm51⟩

end Go.Proofs.YtmiagmbgfhakgaaDoor

