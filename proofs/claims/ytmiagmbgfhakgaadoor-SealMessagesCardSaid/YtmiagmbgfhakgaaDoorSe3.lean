/- The laws of the seal: their walks, and their plain laws. Conditions: none beyond those that each theorem states. -/
import Derived.Test.YtmiagmbgfhakgaaDoorSe2
import Derived.Test.YtmiagmbgfhakgaaDoorFwL
import Derived.Test.YtmiagmbgfhakgaaDoorFwQ
namespace Go.Proofs.YtmiagmbgfhakgaaDoor
set_option linter.unusedVariables false
set_option linter.unusedSimpArgs false

theorem front_close (c t : List (BitVec 8)) (h : t.length = 32) : frontP (c ++ t) = c := by
  unfold frontP; rw [List.length_append, h, Nat.add_sub_cancel]; exact List.take_left
theorem right_close (key nonce la p : List (BitVec 8)) : rightP key nonce la (closeP key nonce la p) = true := by
  unfold rightP closeP
  rw [front_close _ _ (tagP_length _ _ _ _), List.length_append, tagP_length, Nat.add_sub_cancel, List.drop_left]
  exact beq_self_eq_true _
theorem err_close (key nonce la p : List (BitVec 8)) : errO key nonce la (closeP key nonce la p) = 0 := by
  rw [errO_told (by rw [closeP_length]; omega) (right_close key nonce la p)]; rfl
theorem cipher_twice (key nonce p : List (BitVec 8)) : cipherP key nonce (cipherP key nonce p) = p := turn_turn _ _ _ _ _
theorem open_close (key nonce la p : List (BitVec 8)) : openQ key nonce la (closeP key nonce la p) = p := by
  rw [openQ_told (by rw [closeP_length]; omega) (right_close key nonce la p)]
  show cipherP key nonce (frontP (closeP key nonce la p)) = p
  unfold closeP
  rw [front_close _ _ (tagP_length _ _ _ _), cipher_twice]
theorem bad_tag {key nonce la p : List (BitVec 8)} {j : Nat} {e : BitVec 8} (h1 : p.length ≤ j) (h2 : j < p.length + 32) (he : e ≠ 0) : errO key nonce la ((closeP key nonce la p).set j ((closeP key nonce la p).getD j 0 ^^^ e)) = 10 := by
  have hl : ((closeP key nonce la p).set j ((closeP key nonce la p).getD j 0 ^^^ e)).length = p.length + 32 := by rw [List.length_set, closeP_length]
  have hr : rightP key nonce la ((closeP key nonce la p).set j ((closeP key nonce la p).getD j 0 ^^^ e)) = false := by
    unfold rightP frontP
    rw [hl, Nat.add_sub_cancel]
    have e1 : ((closeP key nonce la p).set j ((closeP key nonce la p).getD j 0 ^^^ e)).take p.length = cipherP key nonce p := by
      rw [List.take_set_of_le h1]
      unfold closeP
      rw [← cipherP_length key nonce p, List.take_left]
    rw [e1]
    refine beq_eq_false_iff_ne.2 fun hc => he ?_
    have e2 := congrArg (fun l : List (BitVec 8) => l.getD (j - p.length) 0) hc
    simp only [List.getD_eq_getElem?_getD, List.getElem?_drop, show p.length + (j - p.length) = j by omega] at e2
    rw [List.getElem?_set_self (by rw [closeP_length]; omega)] at e2
    have e3 : (closeP key nonce la p)[j]? = (tagP key nonce la (cipherP key nonce p))[j - p.length]? := by
      unfold closeP
      rw [List.getElem?_append_right (by rw [cipherP_length]; omega), cipherP_length]
    rw [e3] at e2
    simp only [Option.getD_some] at e2
    generalize (tagP key nonce la (cipherP key nonce p))[j - p.length]?.getD 0 = q at e2
    have e4 : q ^^^ q = q ^^^ (q ^^^ e) := congrArg (q ^^^ ·) e2
    rw [BitVec.xor_self, ← BitVec.xor_assoc, BitVec.xor_self, BitVec.zero_xor] at e4
    exact e4.symm
  rw [errO_told (by rw [hl]; omega) hr]; rfl
theorem len8_inj {m n : Nat} (hm : m ≤ 500) (hn : n ≤ 500) (h : len8 (m : Int) = len8 (n : Int)) : m = n := by
  have e6 := congrArg (fun l : List (BitVec 8) => (l.getD 6 0).toNat) h
  have e7 := congrArg (fun l : List (BitVec 8) => (l.getD 7 0).toNat) h
  simp only [len8, List.getD_eq_getElem?_getD, List.getElem?_cons_succ, List.getElem?_cons_zero, Option.getD_some, BitVec.toNat_setWidth, BitVec.toNat_ushiftRight, BitVec.toNat_ofInt, Nat.shiftRight_eq_div_pow] at e6 e7
  omega
theorem msg_told {na nb x y u v : List (BitVec 8)} (ha : na.length = 12) (hb : nb.length = 12) (hx : x.length ≤ 500) (hy : y.length ≤ 500) : (msgP na x u == msgP nb y v) = (na == nb && x == y && u == v) := by
  rw [Bool.eq_iff_iff]
  simp only [beq_iff_eq, Bool.and_eq_true]
  unfold msgP
  constructor
  · intro h
    rw [List.append_assoc, List.append_assoc, List.append_assoc, List.append_assoc] at h
    obtain ⟨h1, h2⟩ := List.append_inj h (by rw [ha, hb])
    obtain ⟨h3, h4⟩ := List.append_inj h2 (by simp)
    obtain ⟨h5, h6⟩ := List.append_inj h4 (len8_inj hx hy h3)
    exact ⟨⟨h1, h5⟩, h6⟩
  · rintro ⟨⟨rfl, rfl⟩, rfl⟩; rfl
theorem nl3 : (closeP (List.replicate 32 0#8) (List.replicate 12 0#8) [] []).length = 32 := closeP_length _ _ _ _

attribute [local irreducible] hmacP tK outK expandP extractP keysQ expandQ errK errP turnP blockP blockR msgP closeP openQ errO cipherP tagP
set_option maxHeartbeats 1000000 in
theorem c_speaks04  (w0 : World)  (hT : Tabs (blks w0)) : CallsR Tryd.prog 10 #[] w0 (fun r w1 => r = (bl true) ∧ Ext w0 w1) := by
 refine callsR_of_cw (args := []) Tryd.func10 rfl Tryd.ntmps10 Tryd.results10 rfl ?_
 have hm0 : Mem w0 (restOf w0) [] := Mem.of_world w0
 refine cw_seq (cw_region ?_)
 refine rw_q rfl (ev_assign (v := (bl false)) rfl) ?_
 refine rw_nil (kThen_normal (cw_seq (cw_region ?_)))
 refine rw_q rfl (ev_build_arr (ps := []) (c := (cl u8 (List.replicate 32 0))) ti23 uT23 ti5 (by simp) rfl) <| rw_q rfl (ev_build_arr (ps := []) (c := (cl u8 (List.replicate 12 0))) ti25 uT25 ti5 (by simp) rfl) <| rw_c rfl (opR_call Tryd.func11 bd11 nm11 (args4 rfl rfl rfl rfl) (c_seal (List.replicate 32 0) (List.replicate 12 0) (Value.slice none 0 0) ([]) (Value.slice none 0 0) ([]) _ (hT.mono fun b o e => (hm0).rest b o e) sD sD (Rd.nil _ _) sD (Rd.nil _ _) sD)) ?_
 rintro rxq2 w1 ⟨Hsq2, grxq2, k_w1⟩
 have hm1 : Mem w1 (restOf w0) (Hsq2 ++ ([])) := Mem.new (H := []) (H' := Hsq2) hm0 k_w1
 refine rA rfl (v := rxq2) rfl ?_
 refine rw_nil (kThen_normal (cw_seq (cw_region ?_)))
 refine rw_q rfl (ev_build_arr (ps := []) (c := (cl u8 (List.replicate 32 0))) ti23 uT23 ti5 (by simp) rfl) <| rw_q rfl (ev_build_arr (ps := []) (c := (cl u8 (List.replicate 12 0))) ti25 uT25 ti5 (by simp) rfl) <| rM rfl (v := rxq2) rfl <| rw_c rfl (opR_call Tryd.func12 bd12 nm12 (args4 rfl rfl rfl rfl) (c_open (List.replicate 32 0) (List.replicate 12 0) (Value.slice none 0 0) ([]) rxq2 (closeP (List.replicate 32 0) (List.replicate 12 0) ([]) ([])) _ (hT.mono fun b o e => (hm1).rest b o e) sD sD (Rd.nil _ _) sD (grxq2.rd hm1) sD)) ?_
 rintro _ w3 ⟨vxq4, Hsq4, rfl, gvxq4, k_w3⟩
 have hm3 : Mem w3 (restOf w0) (Hsq4 ++ (Hsq2 ++ ([]))) := Mem.new (H := Hsq2 ++ ([])) (H' := Hsq4) hm1 k_w3
 refine rM rfl rfl <| rw_q (v := vxq4) rfl (ev_extract rfl rfl) <| rw_q (v := (i64 (errO (List.replicate 32 0) (List.replicate 12 0) ([]) (closeP (List.replicate 32 0) (List.replicate 12 0) ([]) ([]))))) rfl (ev_extract rfl rfl) <| rA rfl (v := vxq4) rfl <| rA rfl rfl ?_
 refine rw_nil (kThen_normal ?_)
 refine CW.abs (fun g => g 0 = (bl false) ∧ g 1 = rxq2 ∧ g 2 = vxq4 ∧ g 3 = (i64 (errO (List.replicate 32 0) (List.replicate 12 0) ([]) (closeP (List.replicate 32 0) (List.replicate 12 0) ([]) ([])))) ∧ True) ⟨rfl, rfl, rfl, rfl, trivial⟩ ?_
 rintro fr5 ⟨s0, s1, s2, s3, _⟩
 refine cw_seq (cw_seq (cw_region ?_))
 refine rM rfl s1 <| rw_q (v := (i64 ((closeP (List.replicate 32 0) (List.replicate 12 0) ([]) ([])).length : Int))) rfl (ev_len_rd (grxq2.rd (Mem.pick Hsq4 Hsq2 _ hm3)) uT26 rfl) <| rw_q rfl (ev_i64_neq (b := 32) rfl rfl) <| rM rfl rfl ?_
 have hd6 : (((closeP (List.replicate 32 0) (List.replicate 12 0) ([]) ([])).length : Int) != 32) = false := told_ne (by rw [closeP_length]; rfl)
 refine rw_gyq (s := 17) rfl rfl hd6 rfl (ev_move s3) <| rw_gyq (s := 17) rfl rfl hd6 rfl (ev_i64_neq (b := 0) rfl rfl) <| rw_q rfl (ev_pick_fk rfl hd6 rfl) <| rM rfl rfl ?_
 have hd7 : ((errO (List.replicate 32 0) (List.replicate 12 0) ([]) (closeP (List.replicate 32 0) (List.replicate 12 0) ([]) ([]))) != 0) = false := told_ne (err_close _ _ _ _)
 refine rw_gyq (s := 21) rfl rfl hd7 rfl (ev_move s2) <| rw_gyq (s := 21) rfl rfl hd7 rfl (ev_len_rd (gvxq4.rd hm3) uT26 rfl) <| rw_gyq (s := 21) rfl rfl hd7 rfl (ev_i64_neq (b := 0) rfl rfl) <| rw_q rfl (ev_pick_fk rfl hd7 rfl) ?_
 refine rw_nil (kThen_normal ?_)
 refine CW.abs (fun g => g 0 = (bl false) ∧ g 1 = rxq2 ∧ g 2 = vxq4 ∧ g 3 = (i64 (errO (List.replicate 32 0) (List.replicate 12 0) ([]) (closeP (List.replicate 32 0) (List.replicate 12 0) ([]) ([])))) ∧ g 25 = (bl (((openQ (List.replicate 32 0) (List.replicate 12 0) ([]) (closeP (List.replicate 32 0) (List.replicate 12 0) ([]) ([]))).length : Int) != 0)) ∧ True) ⟨s0, s1, s2, s3, rfl, trivial⟩ ?_
 rintro fr8 ⟨s0, s1, s2, s3, s25, _⟩
 have hd9 : (((openQ (List.replicate 32 0) (List.replicate 12 0) ([]) (closeP (List.replicate 32 0) (List.replicate 12 0) ([]) ([]))).length : Int) != 0) = false := told_ne (by rw [open_close]; rfl)
 refine cw_cond_f s25 hd9 ?_
 refine cw_skip (kThen_normal (cw_seq ?_))
 have hnl := nl3
 refine cw_region <| rM rfl s1 <| rw_q rfl (ev_indexAddr_rdv (i := 3) (grxq2.rd (Mem.pick Hsq4 Hsq2 _ hm3)) uT26 ti5 rfl rfl oM sD) <| rw_q (v := (u8 ((closeP (List.replicate 32 0) (List.replicate 12 0) ([]) ([])).getD 3 0))) rfl (ev_load_rdD (l := closeP (List.replicate 32 0) (List.replicate 12 0) ([]) ([])) (i := 3) (dflt := 0) (grxq2.rd (Mem.pick Hsq4 Hsq2 _ hm3)) uT5 rfl oM sD rfl) <| rw_q rfl (ev_u8_xor (b := 4#8) rfl rfl) <| rw_q rfl (ev_indexAddr_rdv (i := 3) (grxq2.rd (Mem.pick Hsq4 Hsq2 _ hm3)) uT26 ti5 rfl rfl oM sD) ?_
 refine rw_n (or_store_grow (Hs := Hsq2) (H := Hsq4 ++ ([])) (i := 3) (a := ((closeP (List.replicate 32 0) (List.replicate 12 0) ([]) ([])).getD 3 0) ^^^ 4#8) (Mem.pick Hsq4 Hsq2 _ hm3) grxq2 u8_one ti5 oM sD rfl rfl) ?_
 rintro _ w10 ⟨Hs10, hm10, g10⟩
 replace g10 : Grow u8 5 rxq2 ((closeP (List.replicate 32 0) (List.replicate 12 0) ([]) ([])).set 3 (((closeP (List.replicate 32 0) (List.replicate 12 0) ([]) ([])).getD 3 0) ^^^ 4#8)) Hs10 := g10
 refine rw_nil (kThen_normal (cw_seq ?_))
 have hnl := nl3
 refine cw_region <| rw_q rfl (ev_build_arr (ps := []) (c := (cl u8 (List.replicate 32 0))) ti23 uT23 ti5 (by simp) rfl) <| rw_q rfl (ev_build_arr (ps := []) (c := (cl u8 (List.replicate 12 0))) ti25 uT25 ti5 (by simp) rfl) <| rM rfl s1 <| rw_c rfl (opR_call Tryd.func12 bd12 nm12 (args4 rfl rfl rfl rfl) (c_open (List.replicate 32 0) (List.replicate 12 0) (Value.slice none 0 0) ([]) rxq2 ((closeP (List.replicate 32 0) (List.replicate 12 0) ([]) ([])).set 3 (((closeP (List.replicate 32 0) (List.replicate 12 0) ([]) ([])).getD 3 0) ^^^ 4#8)) _ (hT.mono fun b o e => (hm10).rest b o e) sD sD (Rd.nil _ _) sD (g10.rd hm10) sD)) ?_
 rintro _ w11 ⟨vxq12, Hsq12, rfl, gvxq12, k_w11⟩
 have hm11 : Mem w11 (restOf w0) (Hsq12 ++ (Hs10 ++ (Hsq4 ++ ([])))) := Mem.new (H := Hs10 ++ (Hsq4 ++ ([]))) (H' := Hsq12) hm10 k_w11
 refine rM rfl rfl <| rw_q (v := vxq12) rfl (ev_extract rfl rfl) <| rw_q (v := (i64 (errO (List.replicate 32 0) (List.replicate 12 0) ([]) ((closeP (List.replicate 32 0) (List.replicate 12 0) ([]) ([])).set 3 (((closeP (List.replicate 32 0) (List.replicate 12 0) ([]) ([])).getD 3 0) ^^^ 4#8))))) rfl (ev_extract rfl rfl) <| rA rfl rfl ?_
 refine rw_nil (kThen_normal ?_)
 have hm13 := Mem.drop Hsq12 _ hm11
 refine CW.abs (fun g => g 0 = (bl false) ∧ g 1 = rxq2 ∧ g 2 = vxq4 ∧ g 3 = (i64 (errO (List.replicate 32 0) (List.replicate 12 0) ([]) ((closeP (List.replicate 32 0) (List.replicate 12 0) ([]) ([])).set 3 (((closeP (List.replicate 32 0) (List.replicate 12 0) ([]) ([])).getD 3 0) ^^^ 4#8)))) ∧ g 25 = (bl (((openQ (List.replicate 32 0) (List.replicate 12 0) ([]) (closeP (List.replicate 32 0) (List.replicate 12 0) ([]) ([]))).length : Int) != 0)) ∧ True) ⟨s0, s1, s2, rfl, s25, trivial⟩ ?_
 rintro fr14 ⟨s0, s1, s2, s3, s25, _⟩
 refine cw_seq (cw_region ?_)
 refine rM rfl s3 <| rw_q rfl (ev_i64_eql (b := 10) rfl rfl) <| rM rfl rfl ?_
 have hd15 : ((errO (List.replicate 32 0) (List.replicate 12 0) ([]) ((closeP (List.replicate 32 0) (List.replicate 12 0) ([]) ([])).set 3 (((closeP (List.replicate 32 0) (List.replicate 12 0) ([]) ([])).getD 3 0) ^^^ 4#8))) == 10) = true := told_true (bad_tag (Nat.zero_le _) (by decide) (by decide))
 refine rw_gy (s := 40) rfl rfl hd15 rfl (or_buildSlice_cl u8 [1#8] u8_one hm13 uT26 ti5 rfl rfl rfl) ?_
 rintro _ w16 ⟨b41, rfl, _ew16, hm16⟩
 refine rw_gy (s := 40) rfl rfl hd15 rfl (or_buildSlice_cl u8 [1#8] u8_one hm16 uT26 ti5 rfl rfl rfl) ?_
 rintro _ w17 ⟨b42, rfl, _ew17, hm17⟩
 refine rw_gy (s := 40) rfl rfl hd15 rfl (opR_call Tryd.func18 bd18 nm18 (args2 rfl rfl) (c_ssame (slc b41 0 1 1) (slc b42 0 1 1) ([1#8]) ([1#8]) _ (Rd.mkA hm17.h1) (Rd.mkA hm17.h0) sD)) ?_
 rintro _ w18 ⟨rfl, _ew18⟩
 have hm18 := hm17.ext _ew18
 refine rw_q rfl (ev_pick_tk rfl hd15 rfl) <| rw_q rfl (ev_move (v := (bl (([1#8]) == ([1#8])))) rfl) ?_
 have hd20 : (([1#8]) == ([1#8])) = true := told_true rfl
 refine rw_gy (s := 45) rfl rfl hd20 rfl (or_buildSlice_cl u8 [1#8] u8_one hm18 uT26 ti5 rfl rfl rfl) ?_
 rintro _ w21 ⟨b46, rfl, _ew21, hm21⟩
 refine rw_gy (s := 45) rfl rfl hd20 rfl (opR_call Tryd.func18 bd18 nm18 (args2 rfl rfl) (c_ssame (slc b46 0 1 1) (Value.slice none 0 0) ([1#8]) ([]) _ (Rd.mkA hm21.h0) (Rd.nil _ _) sD)) ?_
 rintro _ w22 ⟨rfl, _ew22⟩
 have hm22 := hm21.ext _ew22
 refine rw_gyq (s := 45) rfl rfl hd20 rfl (ev_not rfl) <| rw_q rfl (ev_pick_tk rfl hd20 rfl) <| rw_q rfl (ev_assign (v := (bl (!(([1#8]) == ([]))))) rfl) ?_
 refine rw_nil (kThen_normal ?_)
 have hm24 := Mem.drop ([(b46, .cells (cl u8 ([1#8])) 5 (0, 0))]) _ hm22
 have hm25 := Mem.drop ([(b42, .cells (cl u8 ([1#8])) 5 (0, 0))]) _ hm24
 have hm26 := Mem.drop ([(b41, .cells (cl u8 ([1#8])) 5 (0, 0))]) _ hm25
 refine CW.abs (fun g => g 0 = (bl (!(([1#8]) == ([])))) ∧ g 1 = rxq2 ∧ g 2 = vxq4 ∧ g 3 = (i64 (errO (List.replicate 32 0) (List.replicate 12 0) ([]) ((closeP (List.replicate 32 0) (List.replicate 12 0) ([]) ([])).set 3 (((closeP (List.replicate 32 0) (List.replicate 12 0) ([]) ([])).getD 3 0) ^^^ 4#8)))) ∧ g 25 = (bl (((openQ (List.replicate 32 0) (List.replicate 12 0) ([]) (closeP (List.replicate 32 0) (List.replicate 12 0) ([]) ([]))).length : Int) != 0)) ∧ True) ⟨rfl, s1, s2, s3, s25, trivial⟩ ?_
 rintro fr27 ⟨s0, s1, s2, s3, s25, _⟩
 refine cw_ret <| fnPost_ret [(bl (!(([1#8]) == ([]))))] ⟨s0, trivial⟩ ?_
 exact ⟨congrArg bl (by decide), hm26.toExt⟩

set_option maxHeartbeats 2000000 in
theorem law_smessages (na nb : List (BitVec 8)) (va : Value) (la : List (BitVec 8)) (vb : Value) (lb : List (BitVec 8)) (vc : Value) (lc : List (BitVec 8)) (vd : Value) (ld : List (BitVec 8)) (w0 : World)  (hT : Tabs (blks w0)) (hna : na.length = 12) (hnb : nb.length = 12) (hra : Rd (blks w0) u8 va la) (hlhra : la.length ≤ 9223372036854775807) (hrb : Rd (blks w0) u8 vb lb) (hlhrb : lb.length ≤ 9223372036854775807) (hrc : Rd (blks w0) u8 vc lc) (hlhrc : lc.length ≤ 9223372036854775807) (hrd : Rd (blks w0) u8 vd ld) (hlhrd : ld.length ≤ 9223372036854775807) : CallsR Tryd.prog 5 #[(agg u8 na), (agg u8 nb), va, vb, vc, vd] w0 (fun r w1 => r = bl true ∧ RowKit.Below w0.heap.size w0 w1) := by
 refine callsR_of_cw (args := [(agg u8 na), (agg u8 nb), va, vb, vc, vd]) Tryd.func5 rfl Tryd.ntmps5 Tryd.results5 rfl ?_
 have hm0 : Mem w0 (restOf w0) [] := Mem.of_world w0
 refine cw_seq (cw_region ?_)
 refine rw_c rfl (or_box_agg (f := u8) (l := na) hm0 rfl) ?_
 rintro _ w1 ⟨b6, rfl, _ew1, hm1⟩
 refine rw_c rfl (or_box_agg (f := u8) (l := nb) hm1 rfl) ?_
 rintro _ w2 ⟨b7, rfl, _ew2, hm2⟩
 refine rw_q rfl (ev_assign (v := (bl false)) rfl) ?_
 refine rw_nil (kThen_normal (cw_seq (cw_seq (cw_region ?_))))
 refine rw_c rfl (opR_call Tryd.func10 bd10 nm10 (args0) (c_speaks04 _ (hT.mono fun b o e => (hm2).rest b o e))) ?_
 rintro _ w3 ⟨rfl, _ew3⟩
 have hm3 := hm2.ext _ew3
 refine rw_q (v := (bl false)) rfl (ev_not (b := true) rfl) ?_
 refine rw_nil (kThen_normal ?_)
 refine cw_cond_f rfl (by decide) ?_
 refine cw_skip (kThen_normal (cw_seq (cw_seq (cw_region ?_))))
 refine rM rfl (v := va) rfl <| rw_q (v := (i64 (la.length : Int))) rfl (ev_len_rd (Rd.ofRest hra hm3) uT26 rfl) <| rw_q rfl (ev_i64_gtr (b := 500) rfl rfl) <| rw_q rfl (ev_move (v := (bl (decide (500 < (la.length : Int))))) rfl) ?_
 rcases Bool.eq_false_or_eq_true (decide (500 < (la.length : Int))) with hb5 | hb5
 · -- true
   have hb5p := of_decide_eq_true hb5
   refine rw_gn (s := 19) rfl rfl hb5 rfl <| rw_gn (s := 19) rfl rfl hb5 rfl <| rw_gn (s := 19) rfl rfl hb5 rfl <| rw_q rfl (ev_pick_tk rfl hb5 rfl) <| rw_q rfl (ev_move (v := (bl true)) rfl) <| rw_gn (s := 24) rfl rfl rfl rfl ?_
   refine rw_gn (s := 24) rfl rfl rfl rfl <| rw_gn (s := 24) rfl rfl rfl rfl <| rw_q rfl (ev_pick_t rfl rfl) <| rw_q rfl (ev_move (v := (bl true)) rfl) <| rw_gn (s := 29) rfl rfl rfl rfl <| rw_gn (s := 29) rfl rfl rfl rfl ?_
   refine rw_gn (s := 29) rfl rfl rfl rfl <| rw_q rfl (ev_pick_t rfl rfl) ?_
   refine rw_nil (kThen_normal ?_)
   refine CW.abs (fun g => g 0 = (agg u8 na) ∧ g 1 = (agg u8 nb) ∧ g 2 = va ∧ g 3 = vb ∧ g 4 = vc ∧ g 5 = vd ∧ g 6 = (ptr b6 0) ∧ g 7 = (ptr b7 0) ∧ g 12 = (bl false) ∧ g 15 = (bl false) ∧ g 33 = (bl true) ∧ True) ⟨rfl, rfl, rfl, rfl, rfl, rfl, rfl, rfl, rfl, rfl, rfl, trivial⟩ ?_
   rintro fr6 ⟨s0, s1, s2, s3, s4, s5, s6, s7, s12, s15, s33, _⟩
   refine cw_cond_t s33 (by decide) ?_
   refine cw_seq (cw_region ?_)
   refine rw_q rfl (ev_assign (v := (bl true)) rfl) ?_
   refine rw_nil (kThen_normal (cw_ret (kThen_ret ?_)))
   refine fnPost_ret [(bl true)] ⟨rfl, trivial⟩ ?_
   exact ⟨rfl, Mem.below w0 hm3⟩
 · -- false
   have hb5p := of_decide_eq_false hb5
   refine rw_gyq (s := 19) rfl rfl hb5 rfl (ev_move (v := vb) rfl) <| rw_gyq (s := 19) rfl rfl hb5 rfl (ev_len_rd (Rd.ofRest hrb hm3) uT26 rfl) <| rw_gyq (s := 19) rfl rfl hb5 rfl (ev_i64_gtr (b := 500) rfl rfl) <| rw_q rfl (ev_pick_fk rfl hb5 rfl) <| rw_q rfl (ev_move (v := (bl (decide (500 < (lb.length : Int))))) rfl) ?_
   rcases Bool.eq_false_or_eq_true (decide (500 < (lb.length : Int))) with hb7 | hb7
   · -- true
     have hb7p := of_decide_eq_true hb7
     refine rw_gn (s := 24) rfl rfl hb7 rfl <| rw_gn (s := 24) rfl rfl hb7 rfl <| rw_gn (s := 24) rfl rfl hb7 rfl <| rw_q rfl (ev_pick_tk rfl hb7 rfl) <| rw_q rfl (ev_move (v := (bl true)) rfl) <| rw_gn (s := 29) rfl rfl rfl rfl ?_
     refine rw_gn (s := 29) rfl rfl rfl rfl <| rw_gn (s := 29) rfl rfl rfl rfl <| rw_q rfl (ev_pick_t rfl rfl) ?_
     refine rw_nil (kThen_normal ?_)
     refine CW.abs (fun g => g 0 = (agg u8 na) ∧ g 1 = (agg u8 nb) ∧ g 2 = va ∧ g 3 = vb ∧ g 4 = vc ∧ g 5 = vd ∧ g 6 = (ptr b6 0) ∧ g 7 = (ptr b7 0) ∧ g 12 = (bl false) ∧ g 15 = (bl false) ∧ g 33 = (bl true) ∧ True) ⟨rfl, rfl, rfl, rfl, rfl, rfl, rfl, rfl, rfl, rfl, rfl, trivial⟩ ?_
     rintro fr8 ⟨s0, s1, s2, s3, s4, s5, s6, s7, s12, s15, s33, _⟩
     refine cw_cond_t s33 (by decide) ?_
     refine cw_seq (cw_region ?_)
     refine rw_q rfl (ev_assign (v := (bl true)) rfl) ?_
     refine rw_nil (kThen_normal (cw_ret (kThen_ret ?_)))
     refine fnPost_ret [(bl true)] ⟨rfl, trivial⟩ ?_
     exact ⟨rfl, Mem.below w0 hm3⟩
   · -- false
     have hb7p := of_decide_eq_false hb7
     refine rw_gyq (s := 24) rfl rfl hb7 rfl (ev_move (v := vc) rfl) <| rw_gyq (s := 24) rfl rfl hb7 rfl (ev_len_rd (Rd.ofRest hrc hm3) uT26 rfl) <| rw_gyq (s := 24) rfl rfl hb7 rfl (ev_i64_gtr (b := 500) rfl rfl) <| rw_q rfl (ev_pick_fk rfl hb7 rfl) <| rw_q rfl (ev_move (v := (bl (decide (500 < (lc.length : Int))))) rfl) ?_
     rcases Bool.eq_false_or_eq_true (decide (500 < (lc.length : Int))) with hb9 | hb9
     · -- true
       have hb9p := of_decide_eq_true hb9
       refine rw_gn (s := 29) rfl rfl hb9 rfl <| rw_gn (s := 29) rfl rfl hb9 rfl <| rw_gn (s := 29) rfl rfl hb9 rfl <| rw_q rfl (ev_pick_tk rfl hb9 rfl) ?_
       refine rw_nil (kThen_normal ?_)
       refine CW.abs (fun g => g 0 = (agg u8 na) ∧ g 1 = (agg u8 nb) ∧ g 2 = va ∧ g 3 = vb ∧ g 4 = vc ∧ g 5 = vd ∧ g 6 = (ptr b6 0) ∧ g 7 = (ptr b7 0) ∧ g 12 = (bl false) ∧ g 15 = (bl false) ∧ g 33 = (bl true) ∧ True) ⟨rfl, rfl, rfl, rfl, rfl, rfl, rfl, rfl, rfl, rfl, rfl, trivial⟩ ?_
       rintro fr10 ⟨s0, s1, s2, s3, s4, s5, s6, s7, s12, s15, s33, _⟩
       refine cw_cond_t s33 (by decide) ?_
       refine cw_seq (cw_region ?_)
       refine rw_q rfl (ev_assign (v := (bl true)) rfl) ?_
       refine rw_nil (kThen_normal (cw_ret (kThen_ret ?_)))
       refine fnPost_ret [(bl true)] ⟨rfl, trivial⟩ ?_
       exact ⟨rfl, Mem.below w0 hm3⟩
     · -- false
       have hb9p := of_decide_eq_false hb9
       refine rw_gyq (s := 29) rfl rfl hb9 rfl (ev_move (v := vd) rfl) <| rw_gyq (s := 29) rfl rfl hb9 rfl (ev_len_rd (Rd.ofRest hrd hm3) uT26 rfl) <| rw_gyq (s := 29) rfl rfl hb9 rfl (ev_i64_gtr (b := 500) rfl rfl) <| rw_q rfl (ev_pick_fk rfl hb9 rfl) ?_
       refine rw_nil (kThen_normal ?_)
       refine CW.abs (fun g => g 0 = (agg u8 na) ∧ g 1 = (agg u8 nb) ∧ g 2 = va ∧ g 3 = vb ∧ g 4 = vc ∧ g 5 = vd ∧ g 6 = (ptr b6 0) ∧ g 7 = (ptr b7 0) ∧ g 12 = (bl false) ∧ g 15 = (bl false) ∧ g 33 = (bl (decide (500 < (ld.length : Int)))) ∧ True) ⟨rfl, rfl, rfl, rfl, rfl, rfl, rfl, rfl, rfl, rfl, rfl, trivial⟩ ?_
       rintro fr11 ⟨s0, s1, s2, s3, s4, s5, s6, s7, s12, s15, s33, _⟩
       refine cw_cond s33 (fun hc12 => ?_) (fun hc12 => ?_)
       · -- true
         have hc12p := of_decide_eq_true hc12
         refine cw_seq (cw_region ?_)
         refine rw_q rfl (ev_assign (v := (bl true)) rfl) ?_
         refine rw_nil (kThen_normal (cw_ret (kThen_ret ?_)))
         refine fnPost_ret [(bl true)] ⟨rfl, trivial⟩ ?_
         exact ⟨rfl, Mem.below w0 hm3⟩
       · -- false
         have hc12p := of_decide_eq_false hc12
         refine cw_skip (kThen_normal (cw_seq (cw_region ?_)))
         refine rw_q (v := (agg u8 na)) rfl (ev_loadA uT25 rfl ti25 s6 hm3.h1 sZ) <| rw_q (v := (agg u8 nb)) rfl (ev_loadA uT25 rfl ti25 s7 hm3.h0 sZ) <| rw_q rfl (ev_u8arr_eql (l := na) (m := nb) uT25 uT5 ti5 Tryd.eqGuardType25 rfl rfl (by first | rfl | first | omega | (simp; done) | (simp; omega) | decide) (by first | rfl | first | omega | (simp; done) | (simp; omega) | decide)) <| rw_q rfl (ev_move (v := (bl (na == nb))) rfl) ?_
         rcases Bool.eq_false_or_eq_true (na == nb) with hb13 | hb13
         · -- true
           have hb13p := eq_of_beq hb13
           refine rw_gyq (s := 37) rfl rfl hb13 rfl (ev_move s2) <| rw_gyq (s := 37) rfl rfl hb13 rfl (ev_move s3) <| rw_gy (s := 37) rfl rfl hb13 rfl (opR_call Tryd.func14 bd14 nm14 (args2 rfl rfl) (c_same va vb la lb _ (Rd.ofRest hra hm3) (Rd.ofRest hrb hm3) sD)) ?_
           rintro _ w14 ⟨rfl, _ew14⟩
           have hm14 := hm3.ext _ew14
           refine rw_q rfl (ev_pick_tk rfl hb13 rfl) <| rw_q rfl (ev_move (v := (bl (la == lb))) rfl) ?_
           rcases Bool.eq_false_or_eq_true (la == lb) with hb16 | hb16
           · -- true
             have hb16p := eq_of_beq hb16
             refine rw_gyq (s := 42) rfl rfl hb16 rfl (ev_move s4) <| rw_gyq (s := 42) rfl rfl hb16 rfl (ev_move s5) <| rw_gy (s := 42) rfl rfl hb16 rfl (opR_call Tryd.func14 bd14 nm14 (args2 rfl rfl) (c_same vc vd lc ld _ (Rd.ofRest hrc hm14) (Rd.ofRest hrd hm14) sD)) ?_
             rintro _ w17 ⟨rfl, _ew17⟩
             have hm17 := hm14.ext _ew17
             refine rw_q rfl (ev_pick_tk rfl hb16 rfl) <| rw_q rfl (ev_assign (v := (bl (lc == ld))) rfl) ?_
             refine rw_nil (kThen_normal ?_)
             refine CW.abs (fun g => g 0 = (agg u8 na) ∧ g 1 = (agg u8 nb) ∧ g 2 = va ∧ g 3 = vb ∧ g 4 = vc ∧ g 5 = vd ∧ g 6 = (ptr b6 0) ∧ g 7 = (ptr b7 0) ∧ g 12 = (bl false) ∧ g 13 = (bl (lc == ld)) ∧ g 15 = (bl false) ∧ g 33 = (bl (decide (500 < (ld.length : Int)))) ∧ True) ⟨s0, s1, s2, s3, s4, s5, s6, s7, s12, rfl, s15, s33, trivial⟩ ?_
             rintro fr19 ⟨s0, s1, s2, s3, s4, s5, s6, s7, s12, s13, s15, s33, _⟩
             refine cw_seq <| cw_draw [(0, false), (1, false), (2, false), (4, false), (5, false), (6, false), (9, false), (3, true), (7, true), (8, false), (10, false), (11, false), (12, false), (13, false), (14, false), (15, false), (16, false)] 17 (by kernel_rfl) <| dw_q (v := (agg u8 na)) rfl rfl (fun _ _hx => ev_loadA uT25 rfl ti25 s6 (hm17.ext _hx).h1 sZ) <| dM rfl rfl s2 <| dM rfl rfl s4 <| dw_q (v := (agg u8 nb)) rfl rfl (fun _ _hx => ev_loadA uT25 rfl ti25 s7 (hm17.ext _hx).h0 sZ) ?_
             refine dM rfl rfl s3 <| dM rfl rfl s5 <| dM rfl rfl s13 ?_
             refine dw_c rfl rfl (fun w20 _ew20 => ?_)
             have hm20 := hm17.ext _ew20
             refine OpR.mono (opR_call Tryd.func16 bd16 nm16 (args3 rfl rfl rfl) (c_message na va la vc lc _ sD (Rd.ofRest hra hm20) sD (Rd.ofRest hrc hm20) sD)) ?_
             rintro rxq22 w21 ⟨Hsq22, grxq22, k_w21⟩
             refine ⟨k_w21.toExt, ?_⟩
             have hm21 : Mem w21 (restOf w0) (Hsq22 ++ ([(b7, .cells (cl u8 nb) 25 (0, 0)), (b6, .cells (cl u8 na) 25 (0, 0))])) := Mem.new (H := [(b7, .cells (cl u8 nb) 25 (0, 0)), (b6, .cells (cl u8 na) 25 (0, 0))]) (H' := Hsq22) hm20 k_w21
             refine dw_c rfl rfl (fun w23 _ew23 => ?_)
             have hm23 := hm21.ext _ew23
             refine OpR.mono (opR_call Tryd.func16 bd16 nm16 (args3 rfl rfl rfl) (c_message nb vb lb vd ld _ sD (Rd.ofRest hrb hm23) sD (Rd.ofRest hrd hm23) sD)) ?_
             rintro rxq25 w24 ⟨Hsq25, grxq25, k_w24⟩
             refine ⟨k_w24.toExt, ?_⟩
             have hm24 : Mem w24 (restOf w0) (Hsq25 ++ (Hsq22 ++ ([(b7, .cells (cl u8 nb) 25 (0, 0)), (b6, .cells (cl u8 na) 25 (0, 0))]))) := Mem.new (H := Hsq22 ++ ([(b7, .cells (cl u8 nb) 25 (0, 0)), (b6, .cells (cl u8 na) 25 (0, 0))])) (H' := Hsq25) hm23 k_w24
             refine dw_x (v := (bl ((msgP na la lc) == (msgP nb lb ld)))) rfl rfl (fun w26 _ew26 => OpR.mono (opR_call Tryd.func14 bd14 nm14 (args2 rfl rfl) (c_same rxq22 rxq25 (msgP na la lc) (msgP nb lb ld) _ (grxq22.rd (Mem.pick Hsq25 Hsq22 _ (hm24.ext _ew26))) (grxq25.rd (hm24.ext _ew26)) sD)) (by rintro _ w27 ⟨rfl, _ew27⟩; exact ⟨rfl, _ew27⟩)) <| dw_q rfl rfl (fun _ _hx => ev_bool_eql uT4 rfl rfl) <| dw_q rfl rfl (fun _ _hx => ev_move (v := (bl (((msgP na la lc) == (msgP nb lb ld)) == (lc == ld)))) rfl) ?_
             have hd29 : (((msgP na la lc) == (msgP nb lb ld)) == (lc == ld)) = true := by rw [msg_told hna hnb oM oM]; simp only [hb13, hb16, Bool.true_and, Bool.false_and, Bool.and_false, beq_self_eq_true]
             refine dw_gqy (s := 58) rfl rfl rfl hd29 rfl (fun _ _hx => ev_move s2) <| dw_gqy (s := 58) rfl rfl rfl hd29 rfl (fun _ _hx => ev_move s3) <| dw_gxy (s := 58) (v := (bl (la == lb))) rfl rfl rfl hd29 rfl (fun w30 _ew30 => OpR.mono (opR_call Tryd.func18 bd18 nm18 (args2 rfl rfl) (c_ssame va vb la lb _ (Rd.ofRest hra (hm24.ext _ew30)) (Rd.ofRest hrb (hm24.ext _ew30)) sD)) (by rintro _ w31 ⟨rfl, _ew31⟩; exact ⟨rfl, _ew31⟩)) <| dw_gqy (s := 58) rfl rfl rfl hd29 rfl (fun _ _hx => ev_move s2) <| dw_gqy (s := 58) rfl rfl rfl hd29 rfl (fun _ _hx => ev_move s3) ?_
             refine dw_nil (fun w33 _ew33 => ?_)
             have hm33 := hm24.ext _ew33
             refine rw_gy (s := 58) rfl rfl hd29 rfl (opR_call Tryd.func14 bd14 nm14 (args2 rfl rfl) (c_same va vb la lb _ (Rd.ofRest hra hm33) (Rd.ofRest hrb hm33) sD)) ?_
             rintro _ w34 ⟨rfl, _ew34⟩
             have hm34 := hm33.ext _ew34
             refine rw_gyq (s := 58) rfl rfl hd29 rfl (ev_bool_eql uT4 rfl rfl) <| rw_q rfl (ev_pick_tk rfl hd29 rfl) <| rw_q rfl (ev_assign (v := (bl ((la == lb) == (la == lb)))) rfl) ?_
             refine rw_nil (kThen_normal ?_)
             have hm36 := Mem.drop Hsq25 _ hm34
             have hm37 := Mem.drop Hsq22 _ hm36
             refine CW.abs (fun g => g 0 = (agg u8 na) ∧ g 1 = (agg u8 nb) ∧ g 2 = va ∧ g 3 = vb ∧ g 4 = vc ∧ g 5 = vd ∧ g 6 = (ptr b6 0) ∧ g 7 = (ptr b7 0) ∧ g 12 = (bl ((la == lb) == (la == lb))) ∧ g 13 = (bl (lc == ld)) ∧ g 15 = (bl false) ∧ g 33 = (bl (decide (500 < (ld.length : Int)))) ∧ True) ⟨s0, s1, s2, s3, s4, s5, s6, s7, rfl, s13, s15, s33, trivial⟩ ?_
             rintro fr38 ⟨s0, s1, s2, s3, s4, s5, s6, s7, s12, s13, s15, s33, _⟩
             refine cw_ret <| fnPost_ret [(bl ((la == lb) == (la == lb)))] ⟨s12, trivial⟩ ?_
             have hd39 : ((la == lb) == (la == lb)) = true := told_true rfl
             exact ⟨congrArg bl hd39, Mem.below w0 hm37⟩
           · -- false
             have hb16p := ne_of_beq_false hb16
             refine rw_gn (s := 42) rfl rfl hb16 rfl <| rw_gn (s := 42) rfl rfl hb16 rfl <| rw_gn (s := 42) rfl rfl hb16 rfl <| rw_q rfl (ev_pick_fk rfl hb16 rfl) <| rw_q rfl (ev_assign (v := (bl false)) rfl) ?_
             refine rw_nil (kThen_normal ?_)
             refine CW.abs (fun g => g 0 = (agg u8 na) ∧ g 1 = (agg u8 nb) ∧ g 2 = va ∧ g 3 = vb ∧ g 4 = vc ∧ g 5 = vd ∧ g 6 = (ptr b6 0) ∧ g 7 = (ptr b7 0) ∧ g 12 = (bl false) ∧ g 13 = (bl false) ∧ g 15 = (bl false) ∧ g 33 = (bl (decide (500 < (ld.length : Int)))) ∧ True) ⟨s0, s1, s2, s3, s4, s5, s6, s7, s12, rfl, s15, s33, trivial⟩ ?_
             rintro fr40 ⟨s0, s1, s2, s3, s4, s5, s6, s7, s12, s13, s15, s33, _⟩
             refine cw_seq <| cw_draw [(0, false), (1, false), (2, false), (4, false), (5, false), (6, false), (9, false), (3, true), (7, true), (8, false), (10, false), (11, false), (12, false), (13, false), (14, false), (15, false), (16, false)] 17 (by kernel_rfl) <| dw_q (v := (agg u8 na)) rfl rfl (fun _ _hx => ev_loadA uT25 rfl ti25 s6 (hm14.ext _hx).h1 sZ) <| dM rfl rfl s2 <| dM rfl rfl s4 <| dw_q (v := (agg u8 nb)) rfl rfl (fun _ _hx => ev_loadA uT25 rfl ti25 s7 (hm14.ext _hx).h0 sZ) ?_
             refine dM rfl rfl s3 <| dM rfl rfl s5 <| dM rfl rfl s13 ?_
             refine dw_c rfl rfl (fun w41 _ew41 => ?_)
             have hm41 := hm14.ext _ew41
             refine OpR.mono (opR_call Tryd.func16 bd16 nm16 (args3 rfl rfl rfl) (c_message na va la vc lc _ sD (Rd.ofRest hra hm41) sD (Rd.ofRest hrc hm41) sD)) ?_
             rintro rxq43 w42 ⟨Hsq43, grxq43, k_w42⟩
             refine ⟨k_w42.toExt, ?_⟩
             have hm42 : Mem w42 (restOf w0) (Hsq43 ++ ([(b7, .cells (cl u8 nb) 25 (0, 0)), (b6, .cells (cl u8 na) 25 (0, 0))])) := Mem.new (H := [(b7, .cells (cl u8 nb) 25 (0, 0)), (b6, .cells (cl u8 na) 25 (0, 0))]) (H' := Hsq43) hm41 k_w42
             refine dw_c rfl rfl (fun w44 _ew44 => ?_)
             have hm44 := hm42.ext _ew44
             refine OpR.mono (opR_call Tryd.func16 bd16 nm16 (args3 rfl rfl rfl) (c_message nb vb lb vd ld _ sD (Rd.ofRest hrb hm44) sD (Rd.ofRest hrd hm44) sD)) ?_
             rintro rxq46 w45 ⟨Hsq46, grxq46, k_w45⟩
             refine ⟨k_w45.toExt, ?_⟩
             have hm45 : Mem w45 (restOf w0) (Hsq46 ++ (Hsq43 ++ ([(b7, .cells (cl u8 nb) 25 (0, 0)), (b6, .cells (cl u8 na) 25 (0, 0))]))) := Mem.new (H := Hsq43 ++ ([(b7, .cells (cl u8 nb) 25 (0, 0)), (b6, .cells (cl u8 na) 25 (0, 0))])) (H' := Hsq46) hm44 k_w45
             refine dw_x (v := (bl ((msgP na la lc) == (msgP nb lb ld)))) rfl rfl (fun w47 _ew47 => OpR.mono (opR_call Tryd.func14 bd14 nm14 (args2 rfl rfl) (c_same rxq43 rxq46 (msgP na la lc) (msgP nb lb ld) _ (grxq43.rd (Mem.pick Hsq46 Hsq43 _ (hm45.ext _ew47))) (grxq46.rd (hm45.ext _ew47)) sD)) (by rintro _ w48 ⟨rfl, _ew48⟩; exact ⟨rfl, _ew48⟩)) <| dw_q rfl rfl (fun _ _hx => ev_bool_eql uT4 rfl rfl) <| dw_q rfl rfl (fun _ _hx => ev_move (v := (bl (((msgP na la lc) == (msgP nb lb ld)) == false))) rfl) ?_
             have hd50 : (((msgP na la lc) == (msgP nb lb ld)) == false) = true := by rw [msg_told hna hnb oM oM]; simp only [hb13, hb16, Bool.true_and, Bool.false_and, Bool.and_false, beq_self_eq_true]
             refine dw_gqy (s := 58) rfl rfl rfl hd50 rfl (fun _ _hx => ev_move s2) <| dw_gqy (s := 58) rfl rfl rfl hd50 rfl (fun _ _hx => ev_move s3) <| dw_gxy (s := 58) (v := (bl (la == lb))) rfl rfl rfl hd50 rfl (fun w51 _ew51 => OpR.mono (opR_call Tryd.func18 bd18 nm18 (args2 rfl rfl) (c_ssame va vb la lb _ (Rd.ofRest hra (hm45.ext _ew51)) (Rd.ofRest hrb (hm45.ext _ew51)) sD)) (by rintro _ w52 ⟨rfl, _ew52⟩; exact ⟨rfl, _ew52⟩)) <| dw_gqy (s := 58) rfl rfl rfl hd50 rfl (fun _ _hx => ev_move s2) <| dw_gqy (s := 58) rfl rfl rfl hd50 rfl (fun _ _hx => ev_move s3) ?_
             refine dw_nil (fun w54 _ew54 => ?_)
             have hm54 := hm45.ext _ew54
             refine rw_gy (s := 58) rfl rfl hd50 rfl (opR_call Tryd.func14 bd14 nm14 (args2 rfl rfl) (c_same va vb la lb _ (Rd.ofRest hra hm54) (Rd.ofRest hrb hm54) sD)) ?_
             rintro _ w55 ⟨rfl, _ew55⟩
             have hm55 := hm54.ext _ew55
             refine rw_gyq (s := 58) rfl rfl hd50 rfl (ev_bool_eql uT4 rfl rfl) <| rw_q rfl (ev_pick_tk rfl hd50 rfl) <| rw_q rfl (ev_assign (v := (bl ((la == lb) == (la == lb)))) rfl) ?_
             refine rw_nil (kThen_normal ?_)
             have hm57 := Mem.drop Hsq46 _ hm55
             have hm58 := Mem.drop Hsq43 _ hm57
             refine CW.abs (fun g => g 0 = (agg u8 na) ∧ g 1 = (agg u8 nb) ∧ g 2 = va ∧ g 3 = vb ∧ g 4 = vc ∧ g 5 = vd ∧ g 6 = (ptr b6 0) ∧ g 7 = (ptr b7 0) ∧ g 12 = (bl ((la == lb) == (la == lb))) ∧ g 13 = (bl false) ∧ g 15 = (bl false) ∧ g 33 = (bl (decide (500 < (ld.length : Int)))) ∧ True) ⟨s0, s1, s2, s3, s4, s5, s6, s7, rfl, s13, s15, s33, trivial⟩ ?_
             rintro fr59 ⟨s0, s1, s2, s3, s4, s5, s6, s7, s12, s13, s15, s33, _⟩
             refine cw_ret <| fnPost_ret [(bl ((la == lb) == (la == lb)))] ⟨s12, trivial⟩ ?_
             have hd60 : ((la == lb) == (la == lb)) = true := told_true rfl
             exact ⟨congrArg bl hd60, Mem.below w0 hm58⟩
         · -- false
           have hb13p := ne_of_beq_false hb13
           refine rw_gn (s := 37) rfl rfl hb13 rfl <| rw_gn (s := 37) rfl rfl hb13 rfl <| rw_gn (s := 37) rfl rfl hb13 rfl <| rw_q rfl (ev_pick_fk rfl hb13 rfl) <| rw_q rfl (ev_move (v := (bl false)) rfl) <| rw_gn (s := 42) rfl rfl rfl rfl ?_
           refine rw_gn (s := 42) rfl rfl rfl rfl <| rw_gn (s := 42) rfl rfl rfl rfl <| rw_q rfl (ev_pick_f rfl rfl) <| rw_q rfl (ev_assign (v := (bl false)) rfl) ?_
           refine rw_nil (kThen_normal ?_)
           refine CW.abs (fun g => g 0 = (agg u8 na) ∧ g 1 = (agg u8 nb) ∧ g 2 = va ∧ g 3 = vb ∧ g 4 = vc ∧ g 5 = vd ∧ g 6 = (ptr b6 0) ∧ g 7 = (ptr b7 0) ∧ g 12 = (bl false) ∧ g 13 = (bl false) ∧ g 15 = (bl false) ∧ g 33 = (bl (decide (500 < (ld.length : Int)))) ∧ True) ⟨s0, s1, s2, s3, s4, s5, s6, s7, s12, rfl, s15, s33, trivial⟩ ?_
           rintro fr61 ⟨s0, s1, s2, s3, s4, s5, s6, s7, s12, s13, s15, s33, _⟩
           refine cw_seq <| cw_draw [(0, false), (1, false), (2, false), (4, false), (5, false), (6, false), (9, false), (3, true), (7, true), (8, false), (10, false), (11, false), (12, false), (13, false), (14, false), (15, false), (16, false)] 17 (by kernel_rfl) <| dw_q (v := (agg u8 na)) rfl rfl (fun _ _hx => ev_loadA uT25 rfl ti25 s6 (hm3.ext _hx).h1 sZ) <| dM rfl rfl s2 <| dM rfl rfl s4 <| dw_q (v := (agg u8 nb)) rfl rfl (fun _ _hx => ev_loadA uT25 rfl ti25 s7 (hm3.ext _hx).h0 sZ) ?_
           refine dM rfl rfl s3 <| dM rfl rfl s5 <| dM rfl rfl s13 ?_
           refine dw_c rfl rfl (fun w62 _ew62 => ?_)
           have hm62 := hm3.ext _ew62
           refine OpR.mono (opR_call Tryd.func16 bd16 nm16 (args3 rfl rfl rfl) (c_message na va la vc lc _ sD (Rd.ofRest hra hm62) sD (Rd.ofRest hrc hm62) sD)) ?_
           rintro rxq64 w63 ⟨Hsq64, grxq64, k_w63⟩
           refine ⟨k_w63.toExt, ?_⟩
           have hm63 : Mem w63 (restOf w0) (Hsq64 ++ ([(b7, .cells (cl u8 nb) 25 (0, 0)), (b6, .cells (cl u8 na) 25 (0, 0))])) := Mem.new (H := [(b7, .cells (cl u8 nb) 25 (0, 0)), (b6, .cells (cl u8 na) 25 (0, 0))]) (H' := Hsq64) hm62 k_w63
           refine dw_c rfl rfl (fun w65 _ew65 => ?_)
           have hm65 := hm63.ext _ew65
           refine OpR.mono (opR_call Tryd.func16 bd16 nm16 (args3 rfl rfl rfl) (c_message nb vb lb vd ld _ sD (Rd.ofRest hrb hm65) sD (Rd.ofRest hrd hm65) sD)) ?_
           rintro rxq67 w66 ⟨Hsq67, grxq67, k_w66⟩
           refine ⟨k_w66.toExt, ?_⟩
           have hm66 : Mem w66 (restOf w0) (Hsq67 ++ (Hsq64 ++ ([(b7, .cells (cl u8 nb) 25 (0, 0)), (b6, .cells (cl u8 na) 25 (0, 0))]))) := Mem.new (H := Hsq64 ++ ([(b7, .cells (cl u8 nb) 25 (0, 0)), (b6, .cells (cl u8 na) 25 (0, 0))])) (H' := Hsq67) hm65 k_w66
           refine dw_x (v := (bl ((msgP na la lc) == (msgP nb lb ld)))) rfl rfl (fun w68 _ew68 => OpR.mono (opR_call Tryd.func14 bd14 nm14 (args2 rfl rfl) (c_same rxq64 rxq67 (msgP na la lc) (msgP nb lb ld) _ (grxq64.rd (Mem.pick Hsq67 Hsq64 _ (hm66.ext _ew68))) (grxq67.rd (hm66.ext _ew68)) sD)) (by rintro _ w69 ⟨rfl, _ew69⟩; exact ⟨rfl, _ew69⟩)) <| dw_q rfl rfl (fun _ _hx => ev_bool_eql uT4 rfl rfl) <| dw_q rfl rfl (fun _ _hx => ev_move (v := (bl (((msgP na la lc) == (msgP nb lb ld)) == false))) rfl) ?_
           have hd71 : (((msgP na la lc) == (msgP nb lb ld)) == false) = true := by rw [msg_told hna hnb oM oM]; simp only [hb13, Bool.true_and, Bool.false_and, Bool.and_false, beq_self_eq_true]
           refine dw_gqy (s := 58) rfl rfl rfl hd71 rfl (fun _ _hx => ev_move s2) <| dw_gqy (s := 58) rfl rfl rfl hd71 rfl (fun _ _hx => ev_move s3) <| dw_gxy (s := 58) (v := (bl (la == lb))) rfl rfl rfl hd71 rfl (fun w72 _ew72 => OpR.mono (opR_call Tryd.func18 bd18 nm18 (args2 rfl rfl) (c_ssame va vb la lb _ (Rd.ofRest hra (hm66.ext _ew72)) (Rd.ofRest hrb (hm66.ext _ew72)) sD)) (by rintro _ w73 ⟨rfl, _ew73⟩; exact ⟨rfl, _ew73⟩)) <| dw_gqy (s := 58) rfl rfl rfl hd71 rfl (fun _ _hx => ev_move s2) <| dw_gqy (s := 58) rfl rfl rfl hd71 rfl (fun _ _hx => ev_move s3) ?_
           refine dw_nil (fun w75 _ew75 => ?_)
           have hm75 := hm66.ext _ew75
           refine rw_gy (s := 58) rfl rfl hd71 rfl (opR_call Tryd.func14 bd14 nm14 (args2 rfl rfl) (c_same va vb la lb _ (Rd.ofRest hra hm75) (Rd.ofRest hrb hm75) sD)) ?_
           rintro _ w76 ⟨rfl, _ew76⟩
           have hm76 := hm75.ext _ew76
           refine rw_gyq (s := 58) rfl rfl hd71 rfl (ev_bool_eql uT4 rfl rfl) <| rw_q rfl (ev_pick_tk rfl hd71 rfl) <| rw_q rfl (ev_assign (v := (bl ((la == lb) == (la == lb)))) rfl) ?_
           refine rw_nil (kThen_normal ?_)
           have hm78 := Mem.drop Hsq67 _ hm76
           have hm79 := Mem.drop Hsq64 _ hm78
           refine CW.abs (fun g => g 0 = (agg u8 na) ∧ g 1 = (agg u8 nb) ∧ g 2 = va ∧ g 3 = vb ∧ g 4 = vc ∧ g 5 = vd ∧ g 6 = (ptr b6 0) ∧ g 7 = (ptr b7 0) ∧ g 12 = (bl ((la == lb) == (la == lb))) ∧ g 13 = (bl false) ∧ g 15 = (bl false) ∧ g 33 = (bl (decide (500 < (ld.length : Int)))) ∧ True) ⟨s0, s1, s2, s3, s4, s5, s6, s7, rfl, s13, s15, s33, trivial⟩ ?_
           rintro fr80 ⟨s0, s1, s2, s3, s4, s5, s6, s7, s12, s13, s15, s33, _⟩
           refine cw_ret <| fnPost_ret [(bl ((la == lb) == (la == lb)))] ⟨s12, trivial⟩ ?_
           have hd81 : ((la == lb) == (la == lb)) = true := told_true rfl
           exact ⟨congrArg bl hd81, Mem.below w0 hm79⟩

end Go.Proofs.YtmiagmbgfhakgaaDoor

