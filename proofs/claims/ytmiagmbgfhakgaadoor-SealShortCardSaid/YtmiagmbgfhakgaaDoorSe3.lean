/- The laws of the seal: their walks, and their plain laws. Conditions: none beyond those that each theorem states. -/
import Derived.Test.YtmiagmbgfhakgaaDoorSe2
import Derived.Test.YtmiagmbgfhakgaaDoorFwL
import Derived.Test.YtmiagmbgfhakgaaDoorFwQ
namespace Go.Proofs.YtmiagmbgfhakgaaDoor
set_option linter.unusedVariables false
set_option linter.unusedSimpArgs false

theorem front_close (c t : List (BitVec 8)) (h : t.length = 32) : frontP (c ++ t) = c := by
  unfold frontP; rw [List.length_append, h, Nat.add_sub_cancel]; exact List.take_left
theorem right_close (key nonce la p : List (BitVec 8)) : rightP key nonce la (closeP key nonce la p) = true := by
  unfold rightP closeP
  rw [front_close _ _ (tagP_length _ _ _ _), List.length_append, tagP_length, Nat.add_sub_cancel, List.drop_left]
  exact beq_self_eq_true _
theorem err_close (key nonce la p : List (BitVec 8)) : errO key nonce la (closeP key nonce la p) = 0 := by
  rw [errO_told (by rw [closeP_length]; omega) (right_close key nonce la p)]; rfl
theorem cipher_twice (key nonce p : List (BitVec 8)) : cipherP key nonce (cipherP key nonce p) = p := turn_turn _ _ _ _ _
theorem open_close (key nonce la p : List (BitVec 8)) : openQ key nonce la (closeP key nonce la p) = p := by
  rw [openQ_told (by rw [closeP_length]; omega) (right_close key nonce la p)]
  show cipherP key nonce (frontP (closeP key nonce la p)) = p
  unfold closeP
  rw [front_close _ _ (tagP_length _ _ _ _), cipher_twice]
theorem bad_tag {key nonce la p : List (BitVec 8)} {j : Nat} {e : BitVec 8} (h1 : p.length ≤ j) (h2 : j < p.length + 32) (he : e ≠ 0) : errO key nonce la ((closeP key nonce la p).set j ((closeP key nonce la p).getD j 0 ^^^ e)) = 10 := by
  have hl : ((closeP key nonce la p).set j ((closeP key nonce la p).getD j 0 ^^^ e)).length = p.length + 32 := by rw [List.length_set, closeP_length]
  have hr : rightP key nonce la ((closeP key nonce la p).set j ((closeP key nonce la p).getD j 0 ^^^ e)) = false := by
    unfold rightP frontP
    rw [hl, Nat.add_sub_cancel]
    have e1 : ((closeP key nonce la p).set j ((closeP key nonce la p).getD j 0 ^^^ e)).take p.length = cipherP key nonce p := by
      rw [List.take_set_of_le h1]
      unfold closeP
      rw [← cipherP_length key nonce p, List.take_left]
    rw [e1]
    refine beq_eq_false_iff_ne.2 fun hc => he ?_
    have e2 := congrArg (fun l : List (BitVec 8) => l.getD (j - p.length) 0) hc
    simp only [List.getD_eq_getElem?_getD, List.getElem?_drop, show p.length + (j - p.length) = j by omega] at e2
    rw [List.getElem?_set_self (by rw [closeP_length]; omega)] at e2
    have e3 : (closeP key nonce la p)[j]? = (tagP key nonce la (cipherP key nonce p))[j - p.length]? := by
      unfold closeP
      rw [List.getElem?_append_right (by rw [cipherP_length]; omega), cipherP_length]
    rw [e3] at e2
    simp only [Option.getD_some] at e2
    generalize (tagP key nonce la (cipherP key nonce p))[j - p.length]?.getD 0 = q at e2
    have e4 : q ^^^ q = q ^^^ (q ^^^ e) := congrArg (q ^^^ ·) e2
    rw [BitVec.xor_self, ← BitVec.xor_assoc, BitVec.xor_self, BitVec.zero_xor] at e4
    exact e4.symm
  rw [errO_told (by rw [hl]; omega) hr]; rfl
theorem open_len {key nonce la b : List (BitVec 8)} (h : ¬ b.length < 32) (he : errO key nonce la b = 0) : ((openQ key nonce la b).length : Int) = (b.length : Int) - 32 := by
  cases hr : rightP key nonce la b with
  | true => rw [openQ_told h hr]; show ((cipherP key nonce (frontP b)).length : Int) = _; rw [cipherP_length, frontP_length]; omega
  | false => rw [errO_told h hr] at he; cases he
theorem err_other {key nonce la b : List (BitVec 8)} (h : ¬ b.length < 32) (he : ¬ errO key nonce la b = 0) : errO key nonce la b = 10 := by
  cases hr : rightP key nonce la b with
  | true => exact absurd (errO_told h hr) he
  | false => exact errO_told h hr
theorem open_none {key nonce la b : List (BitVec 8)} (h : ¬ b.length < 32) (he : ¬ errO key nonce la b = 0) : ((openQ key nonce la b).length : Int) = 0 := by
  cases hr : rightP key nonce la b with
  | true => exact absurd (errO_told h hr) he
  | false => rw [openQ_told h hr]; rfl
theorem nl3 : (closeP (List.replicate 32 0#8) (List.replicate 12 0#8) [] []).length = 32 := closeP_length _ _ _ _

attribute [local irreducible] hmacP tK outK expandP extractP keysQ expandQ errK errP turnP blockP blockR msgP closeP openQ errO cipherP tagP
set_option maxHeartbeats 1000000 in
theorem c_speaks04  (w0 : World)  (hT : Tabs (blks w0)) : CallsR Tryd.prog 10 #[] w0 (fun r w1 => r = (bl true) ∧ Ext w0 w1) := by
 refine callsR_of_cw (args := []) Tryd.func10 rfl Tryd.ntmps10 Tryd.results10 rfl ?_
 have hm0 : Mem w0 (restOf w0) [] := Mem.of_world w0
 refine cw_seq (cw_region ?_)
 refine rw_q rfl (ev_assign (v := (bl false)) rfl) ?_
 refine rw_nil (kThen_normal (cw_seq (cw_region ?_)))
 refine rw_q rfl (ev_build_arr (ps := []) (c := (cl u8 (List.replicate 32 0))) ti23 uT23 ti5 (by simp) rfl) <| rw_q rfl (ev_build_arr (ps := []) (c := (cl u8 (List.replicate 12 0))) ti25 uT25 ti5 (by simp) rfl) <| rw_c rfl (opR_call Tryd.func11 bd11 nm11 (args4 rfl rfl rfl rfl) (c_seal (List.replicate 32 0) (List.replicate 12 0) (Value.slice none 0 0) ([]) (Value.slice none 0 0) ([]) _ (hT.mono fun b o e => (hm0).rest b o e) sD sD (Rd.nil _ _) sD (Rd.nil _ _) sD)) ?_
 rintro rxq2 w1 ⟨Hsq2, grxq2, k_w1⟩
 have hm1 : Mem w1 (restOf w0) (Hsq2 ++ ([])) := Mem.new (H := []) (H' := Hsq2) hm0 k_w1
 refine rA rfl (v := rxq2) rfl ?_
 refine rw_nil (kThen_normal (cw_seq (cw_region ?_)))
 refine rw_q rfl (ev_build_arr (ps := []) (c := (cl u8 (List.replicate 32 0))) ti23 uT23 ti5 (by simp) rfl) <| rw_q rfl (ev_build_arr (ps := []) (c := (cl u8 (List.replicate 12 0))) ti25 uT25 ti5 (by simp) rfl) <| rM rfl (v := rxq2) rfl <| rw_c rfl (opR_call Tryd.func12 bd12 nm12 (args4 rfl rfl rfl rfl) (c_open (List.replicate 32 0) (List.replicate 12 0) (Value.slice none 0 0) ([]) rxq2 (closeP (List.replicate 32 0) (List.replicate 12 0) ([]) ([])) _ (hT.mono fun b o e => (hm1).rest b o e) sD sD (Rd.nil _ _) sD (grxq2.rd hm1) sD)) ?_
 rintro _ w3 ⟨vxq4, Hsq4, rfl, gvxq4, k_w3⟩
 have hm3 : Mem w3 (restOf w0) (Hsq4 ++ (Hsq2 ++ ([]))) := Mem.new (H := Hsq2 ++ ([])) (H' := Hsq4) hm1 k_w3
 refine rM rfl rfl <| rw_q (v := vxq4) rfl (ev_extract rfl rfl) <| rw_q (v := (i64 (errO (List.replicate 32 0) (List.replicate 12 0) ([]) (closeP (List.replicate 32 0) (List.replicate 12 0) ([]) ([]))))) rfl (ev_extract rfl rfl) <| rA rfl (v := vxq4) rfl <| rA rfl rfl ?_
 refine rw_nil (kThen_normal ?_)
 refine CW.abs (fun g => g 0 = (bl false) ∧ g 1 = rxq2 ∧ g 2 = vxq4 ∧ g 3 = (i64 (errO (List.replicate 32 0) (List.replicate 12 0) ([]) (closeP (List.replicate 32 0) (List.replicate 12 0) ([]) ([])))) ∧ True) ⟨rfl, rfl, rfl, rfl, trivial⟩ ?_
 rintro fr5 ⟨s0, s1, s2, s3, _⟩
 refine cw_seq (cw_seq (cw_region ?_))
 refine rM rfl s1 <| rw_q (v := (i64 ((closeP (List.replicate 32 0) (List.replicate 12 0) ([]) ([])).length : Int))) rfl (ev_len_rd (grxq2.rd (Mem.pick Hsq4 Hsq2 _ hm3)) uT26 rfl) <| rw_q rfl (ev_i64_neq (b := 32) rfl rfl) <| rM rfl rfl ?_
 have hd6 : (((closeP (List.replicate 32 0) (List.replicate 12 0) ([]) ([])).length : Int) != 32) = false := told_ne (by rw [closeP_length]; rfl)
 refine rw_gyq (s := 17) rfl rfl hd6 rfl (ev_move s3) <| rw_gyq (s := 17) rfl rfl hd6 rfl (ev_i64_neq (b := 0) rfl rfl) <| rw_q rfl (ev_pick_fk rfl hd6 rfl) <| rM rfl rfl ?_
 have hd7 : ((errO (List.replicate 32 0) (List.replicate 12 0) ([]) (closeP (List.replicate 32 0) (List.replicate 12 0) ([]) ([]))) != 0) = false := told_ne (err_close _ _ _ _)
 refine rw_gyq (s := 21) rfl rfl hd7 rfl (ev_move s2) <| rw_gyq (s := 21) rfl rfl hd7 rfl (ev_len_rd (gvxq4.rd hm3) uT26 rfl) <| rw_gyq (s := 21) rfl rfl hd7 rfl (ev_i64_neq (b := 0) rfl rfl) <| rw_q rfl (ev_pick_fk rfl hd7 rfl) ?_
 refine rw_nil (kThen_normal ?_)
 refine CW.abs (fun g => g 0 = (bl false) ∧ g 1 = rxq2 ∧ g 2 = vxq4 ∧ g 3 = (i64 (errO (List.replicate 32 0) (List.replicate 12 0) ([]) (closeP (List.replicate 32 0) (List.replicate 12 0) ([]) ([])))) ∧ g 25 = (bl (((openQ (List.replicate 32 0) (List.replicate 12 0) ([]) (closeP (List.replicate 32 0) (List.replicate 12 0) ([]) ([]))).length : Int) != 0)) ∧ True) ⟨s0, s1, s2, s3, rfl, trivial⟩ ?_
 rintro fr8 ⟨s0, s1, s2, s3, s25, _⟩
 have hd9 : (((openQ (List.replicate 32 0) (List.replicate 12 0) ([]) (closeP (List.replicate 32 0) (List.replicate 12 0) ([]) ([]))).length : Int) != 0) = false := told_ne (by rw [open_close]; rfl)
 refine cw_cond_f s25 hd9 ?_
 refine cw_skip (kThen_normal (cw_seq ?_))
 have hnl := nl3
 refine cw_region <| rM rfl s1 <| rw_q rfl (ev_indexAddr_rdv (i := 3) (grxq2.rd (Mem.pick Hsq4 Hsq2 _ hm3)) uT26 ti5 rfl rfl oM sD) <| rw_q (v := (u8 ((closeP (List.replicate 32 0) (List.replicate 12 0) ([]) ([])).getD 3 0))) rfl (ev_load_rdD (l := closeP (List.replicate 32 0) (List.replicate 12 0) ([]) ([])) (i := 3) (dflt := 0) (grxq2.rd (Mem.pick Hsq4 Hsq2 _ hm3)) uT5 rfl oM sD rfl) <| rw_q rfl (ev_u8_xor (b := 4#8) rfl rfl) <| rw_q rfl (ev_indexAddr_rdv (i := 3) (grxq2.rd (Mem.pick Hsq4 Hsq2 _ hm3)) uT26 ti5 rfl rfl oM sD) ?_
 refine rw_n (or_store_grow (Hs := Hsq2) (H := Hsq4 ++ ([])) (i := 3) (a := ((closeP (List.replicate 32 0) (List.replicate 12 0) ([]) ([])).getD 3 0) ^^^ 4#8) (Mem.pick Hsq4 Hsq2 _ hm3) grxq2 u8_one ti5 oM sD rfl rfl) ?_
 rintro _ w10 ⟨Hs10, hm10, g10⟩
 replace g10 : Grow u8 5 rxq2 ((closeP (List.replicate 32 0) (List.replicate 12 0) ([]) ([])).set 3 (((closeP (List.replicate 32 0) (List.replicate 12 0) ([]) ([])).getD 3 0) ^^^ 4#8)) Hs10 := g10
 refine rw_nil (kThen_normal (cw_seq ?_))
 have hnl := nl3
 refine cw_region <| rw_q rfl (ev_build_arr (ps := []) (c := (cl u8 (List.replicate 32 0))) ti23 uT23 ti5 (by simp) rfl) <| rw_q rfl (ev_build_arr (ps := []) (c := (cl u8 (List.replicate 12 0))) ti25 uT25 ti5 (by simp) rfl) <| rM rfl s1 <| rw_c rfl (opR_call Tryd.func12 bd12 nm12 (args4 rfl rfl rfl rfl) (c_open (List.replicate 32 0) (List.replicate 12 0) (Value.slice none 0 0) ([]) rxq2 ((closeP (List.replicate 32 0) (List.replicate 12 0) ([]) ([])).set 3 (((closeP (List.replicate 32 0) (List.replicate 12 0) ([]) ([])).getD 3 0) ^^^ 4#8)) _ (hT.mono fun b o e => (hm10).rest b o e) sD sD (Rd.nil _ _) sD (g10.rd hm10) sD)) ?_
 rintro _ w11 ⟨vxq12, Hsq12, rfl, gvxq12, k_w11⟩
 have hm11 : Mem w11 (restOf w0) (Hsq12 ++ (Hs10 ++ (Hsq4 ++ ([])))) := Mem.new (H := Hs10 ++ (Hsq4 ++ ([]))) (H' := Hsq12) hm10 k_w11
 refine rM rfl rfl <| rw_q (v := vxq12) rfl (ev_extract rfl rfl) <| rw_q (v := (i64 (errO (List.replicate 32 0) (List.replicate 12 0) ([]) ((closeP (List.replicate 32 0) (List.replicate 12 0) ([]) ([])).set 3 (((closeP (List.replicate 32 0) (List.replicate 12 0) ([]) ([])).getD 3 0) ^^^ 4#8))))) rfl (ev_extract rfl rfl) <| rA rfl rfl ?_
 refine rw_nil (kThen_normal ?_)
 have hm13 := Mem.drop Hsq12 _ hm11
 refine CW.abs (fun g => g 0 = (bl false) ∧ g 1 = rxq2 ∧ g 2 = vxq4 ∧ g 3 = (i64 (errO (List.replicate 32 0) (List.replicate 12 0) ([]) ((closeP (List.replicate 32 0) (List.replicate 12 0) ([]) ([])).set 3 (((closeP (List.replicate 32 0) (List.replicate 12 0) ([]) ([])).getD 3 0) ^^^ 4#8)))) ∧ g 25 = (bl (((openQ (List.replicate 32 0) (List.replicate 12 0) ([]) (closeP (List.replicate 32 0) (List.replicate 12 0) ([]) ([]))).length : Int) != 0)) ∧ True) ⟨s0, s1, s2, rfl, s25, trivial⟩ ?_
 rintro fr14 ⟨s0, s1, s2, s3, s25, _⟩
 refine cw_seq (cw_region ?_)
 refine rM rfl s3 <| rw_q rfl (ev_i64_eql (b := 10) rfl rfl) <| rM rfl rfl ?_
 have hd15 : ((errO (List.replicate 32 0) (List.replicate 12 0) ([]) ((closeP (List.replicate 32 0) (List.replicate 12 0) ([]) ([])).set 3 (((closeP (List.replicate 32 0) (List.replicate 12 0) ([]) ([])).getD 3 0) ^^^ 4#8))) == 10) = true := told_true (bad_tag (Nat.zero_le _) (by decide) (by decide))
 refine rw_gy (s := 40) rfl rfl hd15 rfl (or_buildSlice_cl u8 [1#8] u8_one hm13 uT26 ti5 rfl rfl rfl) ?_
 rintro _ w16 ⟨b41, rfl, _ew16, hm16⟩
 refine rw_gy (s := 40) rfl rfl hd15 rfl (or_buildSlice_cl u8 [1#8] u8_one hm16 uT26 ti5 rfl rfl rfl) ?_
 rintro _ w17 ⟨b42, rfl, _ew17, hm17⟩
 refine rw_gy (s := 40) rfl rfl hd15 rfl (opR_call Tryd.func18 bd18 nm18 (args2 rfl rfl) (c_ssame (slc b41 0 1 1) (slc b42 0 1 1) ([1#8]) ([1#8]) _ (Rd.mkA hm17.h1) (Rd.mkA hm17.h0) sD)) ?_
 rintro _ w18 ⟨rfl, _ew18⟩
 have hm18 := hm17.ext _ew18
 refine rw_q rfl (ev_pick_tk rfl hd15 rfl) <| rw_q rfl (ev_move (v := (bl (([1#8]) == ([1#8])))) rfl) ?_
 have hd20 : (([1#8]) == ([1#8])) = true := told_true rfl
 refine rw_gy (s := 45) rfl rfl hd20 rfl (or_buildSlice_cl u8 [1#8] u8_one hm18 uT26 ti5 rfl rfl rfl) ?_
 rintro _ w21 ⟨b46, rfl, _ew21, hm21⟩
 refine rw_gy (s := 45) rfl rfl hd20 rfl (opR_call Tryd.func18 bd18 nm18 (args2 rfl rfl) (c_ssame (slc b46 0 1 1) (Value.slice none 0 0) ([1#8]) ([]) _ (Rd.mkA hm21.h0) (Rd.nil _ _) sD)) ?_
 rintro _ w22 ⟨rfl, _ew22⟩
 have hm22 := hm21.ext _ew22
 refine rw_gyq (s := 45) rfl rfl hd20 rfl (ev_not rfl) <| rw_q rfl (ev_pick_tk rfl hd20 rfl) <| rw_q rfl (ev_assign (v := (bl (!(([1#8]) == ([]))))) rfl) ?_
 refine rw_nil (kThen_normal ?_)
 have hm24 := Mem.drop ([(b46, .cells (cl u8 ([1#8])) 5 (0, 0))]) _ hm22
 have hm25 := Mem.drop ([(b42, .cells (cl u8 ([1#8])) 5 (0, 0))]) _ hm24
 have hm26 := Mem.drop ([(b41, .cells (cl u8 ([1#8])) 5 (0, 0))]) _ hm25
 refine CW.abs (fun g => g 0 = (bl (!(([1#8]) == ([])))) ∧ g 1 = rxq2 ∧ g 2 = vxq4 ∧ g 3 = (i64 (errO (List.replicate 32 0) (List.replicate 12 0) ([]) ((closeP (List.replicate 32 0) (List.replicate 12 0) ([]) ([])).set 3 (((closeP (List.replicate 32 0) (List.replicate 12 0) ([]) ([])).getD 3 0) ^^^ 4#8)))) ∧ g 25 = (bl (((openQ (List.replicate 32 0) (List.replicate 12 0) ([]) (closeP (List.replicate 32 0) (List.replicate 12 0) ([]) ([]))).length : Int) != 0)) ∧ True) ⟨rfl, s1, s2, s3, s25, trivial⟩ ?_
 rintro fr27 ⟨s0, s1, s2, s3, s25, _⟩
 refine cw_ret <| fnPost_ret [(bl (!(([1#8]) == ([]))))] ⟨s0, trivial⟩ ?_
 exact ⟨congrArg bl (by decide), hm26.toExt⟩

set_option maxHeartbeats 2000000 in
theorem law_sshort (key : List (BitVec 8)) (nonce : List (BitVec 8)) (va : Value) (la : List (BitVec 8)) (vc : Value) (lc : List (BitVec 8)) (w0 : World)  (hT : Tabs (blks w0)) (hk : key.length = 32) (hn : nonce.length = 12) (hra : Rd (blks w0) u8 va la) (hlhra : la.length ≤ 9223372036854775807) (hrc : Rd (blks w0) u8 vc lc) (hlhrc : lc.length ≤ 9223372036854775807) : CallsR Tryd.prog 7 #[(agg u8 key), (agg u8 nonce), va, vc] w0 (fun r w1 => r = bl true ∧ RowKit.Below w0.heap.size w0 w1) := by
 refine callsR_of_cw (args := [(agg u8 key), (agg u8 nonce), va, vc]) Tryd.func7 rfl Tryd.ntmps7 Tryd.results7 rfl ?_
 have hm0 : Mem w0 (restOf w0) [] := Mem.of_world w0
 refine cw_seq (cw_region ?_)
 refine rw_c rfl (or_box_agg (f := u8) (l := key) hm0 rfl) ?_
 rintro _ w1 ⟨b4, rfl, _ew1, hm1⟩
 refine rw_c rfl (or_box_agg (f := u8) (l := nonce) hm1 rfl) ?_
 rintro _ w2 ⟨b5, rfl, _ew2, hm2⟩
 refine rw_q rfl (ev_assign (v := (bl false)) rfl) ?_
 refine rw_nil (kThen_normal (cw_seq (cw_seq (cw_region ?_))))
 refine rw_c rfl (opR_call Tryd.func10 bd10 nm10 (args0) (c_speaks04 _ (hT.mono fun b o e => (hm2).rest b o e))) ?_
 rintro _ w3 ⟨rfl, _ew3⟩
 have hm3 := hm2.ext _ew3
 refine rw_q (v := (bl false)) rfl (ev_not (b := true) rfl) ?_
 refine rw_nil (kThen_normal ?_)
 refine cw_cond_f rfl (by decide) ?_
 refine cw_skip (kThen_normal (cw_seq (cw_seq (cw_region ?_))))
 refine rM rfl (v := vc) rfl <| rw_q (v := (i64 (lc.length : Int))) rfl (ev_len_rd (Rd.ofRest hrc hm3) uT26 rfl) <| rw_q rfl (ev_i64_gtr (b := 200) rfl rfl) <| rw_q rfl (ev_move (v := (bl (decide (200 < (lc.length : Int))))) rfl) ?_
 rcases Bool.eq_false_or_eq_true (decide (200 < (lc.length : Int))) with hb5 | hb5
 · -- true
   have hb5p := of_decide_eq_true hb5
   refine rw_gn (s := 18) rfl rfl hb5 rfl <| rw_gn (s := 18) rfl rfl hb5 rfl <| rw_gn (s := 18) rfl rfl hb5 rfl <| rw_q rfl (ev_pick_tk rfl hb5 rfl) ?_
   refine rw_nil (kThen_normal ?_)
   refine CW.abs (fun g => g 0 = (agg u8 key) ∧ g 1 = (agg u8 nonce) ∧ g 2 = va ∧ g 3 = vc ∧ g 4 = (ptr b4 0) ∧ g 5 = (ptr b5 0) ∧ g 8 = (bl false) ∧ g 14 = (bl false) ∧ g 22 = (bl true) ∧ True) ⟨rfl, rfl, rfl, rfl, rfl, rfl, rfl, rfl, rfl, trivial⟩ ?_
   rintro fr6 ⟨s0, s1, s2, s3, s4, s5, s8, s14, s22, _⟩
   refine cw_cond_t s22 (by decide) ?_
   refine cw_seq (cw_region ?_)
   refine rw_q rfl (ev_assign (v := (bl true)) rfl) ?_
   refine rw_nil (kThen_normal (cw_ret (kThen_ret ?_)))
   refine fnPost_ret [(bl true)] ⟨rfl, trivial⟩ ?_
   exact ⟨rfl, Mem.below w0 hm3⟩
 · -- false
   have hb5p := of_decide_eq_false hb5
   refine rw_gyq (s := 18) rfl rfl hb5 rfl (ev_move (v := va) rfl) <| rw_gyq (s := 18) rfl rfl hb5 rfl (ev_len_rd (Rd.ofRest hra hm3) uT26 rfl) <| rw_gyq (s := 18) rfl rfl hb5 rfl (ev_i64_gtr (b := 200) rfl rfl) <| rw_q rfl (ev_pick_fk rfl hb5 rfl) ?_
   refine rw_nil (kThen_normal ?_)
   refine CW.abs (fun g => g 0 = (agg u8 key) ∧ g 1 = (agg u8 nonce) ∧ g 2 = va ∧ g 3 = vc ∧ g 4 = (ptr b4 0) ∧ g 5 = (ptr b5 0) ∧ g 8 = (bl false) ∧ g 14 = (bl false) ∧ g 22 = (bl (decide (200 < (la.length : Int)))) ∧ True) ⟨rfl, rfl, rfl, rfl, rfl, rfl, rfl, rfl, rfl, trivial⟩ ?_
   rintro fr7 ⟨s0, s1, s2, s3, s4, s5, s8, s14, s22, _⟩
   refine cw_cond s22 (fun hc8 => ?_) (fun hc8 => ?_)
   · -- true
     have hc8p := of_decide_eq_true hc8
     refine cw_seq (cw_region ?_)
     refine rw_q rfl (ev_assign (v := (bl true)) rfl) ?_
     refine rw_nil (kThen_normal (cw_ret (kThen_ret ?_)))
     refine fnPost_ret [(bl true)] ⟨rfl, trivial⟩ ?_
     exact ⟨rfl, Mem.below w0 hm3⟩
   · -- false
     have hc8p := of_decide_eq_false hc8
     refine cw_skip (kThen_normal (cw_seq (cw_region ?_)))
     refine rw_q (v := (agg u8 key)) rfl (ev_loadA uT23 rfl ti23 s4 hm3.h1 sZ) <| rw_q (v := (agg u8 nonce)) rfl (ev_loadA uT25 rfl ti25 s5 hm3.h0 sZ) <| rM rfl s2 <| rM rfl s3 <| rw_c rfl (opR_call Tryd.func12 bd12 nm12 (args4 rfl rfl rfl rfl) (c_open key nonce va la vc lc _ (hT.mono fun b o e => (hm3).rest b o e) sD sD (Rd.ofRest hra hm3) sD (Rd.ofRest hrc hm3) sD)) ?_
     rintro _ w9 ⟨vxq10, Hsq10, rfl, gvxq10, k_w9⟩
     have hm9 : Mem w9 (restOf w0) (Hsq10 ++ ([(b5, .cells (cl u8 nonce) 25 (0, 0)), (b4, .cells (cl u8 key) 23 (0, 0))])) := Mem.new (H := [(b5, .cells (cl u8 nonce) 25 (0, 0)), (b4, .cells (cl u8 key) 23 (0, 0))]) (H' := Hsq10) hm3 k_w9
     refine rw_q rfl (ev_move (v := (Value.tuple #[vxq10, (i64 (errO key nonce la lc))])) rfl) <| rw_q (v := vxq10) rfl (ev_extract rfl rfl) <| rw_q (v := (i64 (errO key nonce la lc))) rfl (ev_extract rfl rfl) <| rA rfl (v := vxq10) rfl <| rw_q rfl (ev_assign (v := (i64 (errO key nonce la lc))) rfl) ?_
     refine rw_nil (kThen_normal (cw_seq (cw_region ?_)))
     refine rw_q (v := (agg u8 key)) rfl (ev_loadA uT23 rfl ti23 s4 ((Mem.pick2 Hsq10 [_] [_] _ hm9)).h0 sZ) <| rw_q (v := (agg u8 nonce)) rfl (ev_loadA uT25 rfl ti25 s5 ((Mem.pick Hsq10 [_] _ hm9)).h0 sZ) <| rM rfl s2 <| rM rfl s3 <| rw_c rfl (opR_call Tryd.func13 bd13 nm13 (args4 rfl rfl rfl rfl) (c_ropen key nonce va la vc lc _ sD sD (Rd.ofRest hra hm9) sD (Rd.ofRest hrc hm9) sD)) ?_
     rintro _ w11 ⟨vxq12, Hsq12, rfl, gvxq12, k_w11⟩
     have hm11 : Mem w11 (restOf w0) (Hsq12 ++ (Hsq10 ++ ([(b5, .cells (cl u8 nonce) 25 (0, 0)), (b4, .cells (cl u8 key) 23 (0, 0))]))) := Mem.new (H := Hsq10 ++ ([(b5, .cells (cl u8 nonce) 25 (0, 0)), (b4, .cells (cl u8 key) 23 (0, 0))])) (H' := Hsq12) hm9 k_w11
     refine rw_q rfl (ev_move (v := (Value.tuple #[vxq12, (i64 (errO key nonce la lc))])) rfl) <| rw_q (v := vxq12) rfl (ev_extract rfl rfl) <| rw_q (v := (i64 (errO key nonce la lc))) rfl (ev_extract rfl rfl) <| rA rfl (v := vxq12) rfl <| rw_q rfl (ev_assign (v := (i64 (errO key nonce la lc))) rfl) ?_
     refine rw_nil (kThen_normal ?_)
     have hm13 := Mem.drop Hsq12 _ hm11
     refine CW.abs (fun g => g 0 = (agg u8 key) ∧ g 1 = (agg u8 nonce) ∧ g 2 = va ∧ g 3 = vc ∧ g 4 = (ptr b4 0) ∧ g 5 = (ptr b5 0) ∧ g 8 = (bl false) ∧ g 9 = vxq10 ∧ g 10 = (i64 (errO key nonce la lc)) ∧ g 12 = (i64 (errO key nonce la lc)) ∧ g 14 = (bl false) ∧ g 22 = (bl (decide (200 < (la.length : Int)))) ∧ True) ⟨s0, s1, s2, s3, s4, s5, s8, rfl, rfl, rfl, s14, s22, trivial⟩ ?_
     rintro fr14 ⟨s0, s1, s2, s3, s4, s5, s8, s9, s10, s12, s14, s22, _⟩
     refine cw_seq (cw_seq (cw_region ?_))
     refine rM rfl s3 <| rw_q (v := (i64 (lc.length : Int))) rfl (ev_len_rd (Rd.ofRest hrc hm13) uT26 rfl) <| rw_q rfl (ev_i64_lss (b := 32) rfl rfl) ?_
     refine rw_nil (kThen_normal ?_)
     refine cw_cond rfl (fun hc15 => ?_) (fun hc15 => ?_)
     · -- true
       have hc15p := of_decide_eq_true hc15
       refine cw_seq (cw_region ?_)
       refine rM rfl s10 <| rw_q rfl (ev_i64_eql (b := 3) rfl rfl) <| rw_q rfl (ev_move (v := (bl ((errO key nonce la lc) == 3))) rfl) ?_
       have hd16 : ((errO key nonce la lc) == 3) = true := told_true (errO_short oM)
       refine rw_gyq (s := 44) rfl rfl hd16 rfl (ev_move s9) <| rw_gyq (s := 44) rfl rfl hd16 rfl (ev_len_rd (gvxq10.rd hm13) uT26 rfl) <| rw_gyq (s := 44) rfl rfl hd16 rfl (ev_i64_eql (b := 0) rfl rfl) <| rw_q rfl (ev_pick_tk rfl hd16 rfl) <| rw_q rfl (ev_assign (v := (bl (((openQ key nonce la lc).length : Int) == 0))) rfl) ?_
       refine rw_nil (kThen_normal ?_)
       refine CW.abs (fun g => g 0 = (agg u8 key) ∧ g 1 = (agg u8 nonce) ∧ g 2 = va ∧ g 3 = vc ∧ g 4 = (ptr b4 0) ∧ g 5 = (ptr b5 0) ∧ g 8 = (bl (((openQ key nonce la lc).length : Int) == 0)) ∧ g 9 = vxq10 ∧ g 10 = (i64 (errO key nonce la lc)) ∧ g 12 = (i64 (errO key nonce la lc)) ∧ g 14 = (bl false) ∧ g 22 = (bl (decide (200 < (la.length : Int)))) ∧ g 41 = (bl (decide ((lc.length : Int) < 32))) ∧ True) ⟨s0, s1, s2, s3, s4, s5, rfl, s9, s10, s12, s14, s22, rfl, trivial⟩ ?_
       rintro fr17 ⟨s0, s1, s2, s3, s4, s5, s8, s9, s10, s12, s14, s22, s41, _⟩
       refine cw_ret (kThen_ret ?_)
       refine fnPost_ret [(bl (((openQ key nonce la lc).length : Int) == 0))] ⟨s8, trivial⟩ ?_
       have hd18 : (((openQ key nonce la lc).length : Int) == 0) = true := told_true (by rw [openQ_short oM]; rfl)
       exact ⟨congrArg bl hd18, Mem.below w0 hm13⟩
     · -- false
       have hc15p := of_decide_eq_false hc15
       refine cw_skip (kThen_normal (cw_seq (cw_region ?_)))
       refine rM rfl s10 <| rM rfl s12 <| rw_q rfl (ev_i64_eql rfl rfl) <| rw_q rfl (ev_move (v := (bl ((errO key nonce la lc) == (errO key nonce la lc)))) rfl) ?_
       have hd19 : ((errO key nonce la lc) == (errO key nonce la lc)) = true := told_true rfl
       refine rw_gyq (s := 52) rfl rfl hd19 rfl (ev_move s10) <| rw_gyq (s := 52) rfl rfl hd19 rfl (ev_i64_eql (b := 0) rfl rfl) <| rw_gyq (s := 52) rfl rfl hd19 rfl (ev_move (v := (bl ((errO key nonce la lc) == 0))) rfl) ?_
       rcases Bool.eq_false_or_eq_true ((errO key nonce la lc) == 0) with hb20 | hb20
       · -- true
         have hb20p := eq_of_beq hb20
         refine rw_gyq (s := 55) rfl rfl hb20 rfl (ev_move s9) <| rw_gyq (s := 55) rfl rfl hb20 rfl (ev_len_rd (gvxq10.rd hm13) uT26 rfl) <| rw_gyq (s := 55) rfl rfl hb20 rfl (ev_move s3) <| rw_gyq (s := 55) rfl rfl hb20 rfl (ev_len_rd (Rd.ofRest hrc hm13) uT26 rfl) <| rw_gyq (s := 55) rfl rfl hb20 rfl (ev_i64_sub (b := 32) rfl rfl oM oM) <| rw_gyq (s := 55) rfl rfl hb20 rfl (ev_i64_eql rfl rfl) ?_
         refine rw_gyq (s := 52) rfl rfl hd19 rfl (ev_pick_tk rfl hb20 rfl) <| rw_gyq (s := 52) rfl rfl hd19 rfl (ev_move (v := (bl (((openQ key nonce la lc).length : Int) == ((lc.length : Int) - 32)))) rfl) ?_
         have hd21 : (((openQ key nonce la lc).length : Int) == ((lc.length : Int) - 32)) = true := told_true (open_len oM hb20p)
         refine rw_gn (s := 63) rfl rfl hd21 rfl <| rw_gn (s := 63) rfl rfl hd21 rfl <| rw_gn (s := 63) rfl rfl hd21 rfl <| rw_gu (s := 66) rfl rfl rfl <| rw_gu (s := 66) rfl rfl rfl <| rw_gu (s := 66) rfl rfl rfl ?_
         refine rw_gn (s := 63) rfl rfl hd21 rfl <| rw_gyq (s := 52) rfl rfl hd19 rfl (ev_pick_tk rfl hd21 rfl) <| rw_q rfl (ev_pick_tk rfl hd19 rfl) <| rw_q rfl (ev_assign (v := (bl true)) rfl) ?_
         refine rw_nil (kThen_normal ?_)
         refine CW.abs (fun g => g 0 = (agg u8 key) ∧ g 1 = (agg u8 nonce) ∧ g 2 = va ∧ g 3 = vc ∧ g 4 = (ptr b4 0) ∧ g 5 = (ptr b5 0) ∧ g 8 = (bl true) ∧ g 9 = vxq10 ∧ g 10 = (i64 (errO key nonce la lc)) ∧ g 12 = (i64 (errO key nonce la lc)) ∧ g 14 = (bl false) ∧ g 22 = (bl (decide (200 < (la.length : Int)))) ∧ g 41 = (bl (decide ((lc.length : Int) < 32))) ∧ True) ⟨s0, s1, s2, s3, s4, s5, rfl, s9, s10, s12, s14, s22, rfl, trivial⟩ ?_
         rintro fr22 ⟨s0, s1, s2, s3, s4, s5, s8, s9, s10, s12, s14, s22, s41, _⟩
         refine cw_ret <| fnPost_ret [(bl true)] ⟨s8, trivial⟩ ?_
         exact ⟨rfl, Mem.below w0 hm13⟩
       · -- false
         have hb20p := ne_of_beq_false hb20
         refine rw_gn (s := 55) rfl rfl hb20 rfl <| rw_gn (s := 55) rfl rfl hb20 rfl <| rw_gn (s := 55) rfl rfl hb20 rfl <| rw_gn (s := 55) rfl rfl hb20 rfl <| rw_gn (s := 55) rfl rfl hb20 rfl <| rw_gn (s := 55) rfl rfl hb20 rfl ?_
         refine rw_gyq (s := 52) rfl rfl hd19 rfl (ev_pick_fk rfl hb20 rfl) <| rw_gyq (s := 52) rfl rfl hd19 rfl (ev_move (v := (bl false)) rfl) <| rw_gyq (s := 63) rfl rfl rfl rfl (ev_move s10) <| rw_gyq (s := 63) rfl rfl rfl rfl (ev_i64_eql (b := 10) rfl rfl) <| rw_gyq (s := 63) rfl rfl rfl rfl (ev_move (v := (bl ((errO key nonce la lc) == 10))) rfl) ?_
         have hd23 : ((errO key nonce la lc) == 10) = true := told_true (err_other oM hb20p)
         refine rw_gyq (s := 66) rfl rfl hd23 rfl (ev_move s9) <| rw_gyq (s := 66) rfl rfl hd23 rfl (ev_len_rd (gvxq10.rd hm13) uT26 rfl) <| rw_gyq (s := 66) rfl rfl hd23 rfl (ev_i64_eql (b := 0) rfl rfl) <| rw_gyq (s := 63) rfl rfl rfl rfl (ev_pick_tk rfl hd23 rfl) <| rw_gyq (s := 52) rfl rfl hd19 rfl (ev_pick_f rfl rfl) <| rw_q rfl (ev_pick_tk rfl hd19 rfl) ?_
         refine rw_q rfl (ev_assign (v := (bl (((openQ key nonce la lc).length : Int) == 0))) rfl) ?_
         refine rw_nil (kThen_normal ?_)
         refine CW.abs (fun g => g 0 = (agg u8 key) ∧ g 1 = (agg u8 nonce) ∧ g 2 = va ∧ g 3 = vc ∧ g 4 = (ptr b4 0) ∧ g 5 = (ptr b5 0) ∧ g 8 = (bl (((openQ key nonce la lc).length : Int) == 0)) ∧ g 9 = vxq10 ∧ g 10 = (i64 (errO key nonce la lc)) ∧ g 12 = (i64 (errO key nonce la lc)) ∧ g 14 = (bl false) ∧ g 22 = (bl (decide (200 < (la.length : Int)))) ∧ g 41 = (bl (decide ((lc.length : Int) < 32))) ∧ True) ⟨s0, s1, s2, s3, s4, s5, rfl, s9, s10, s12, s14, s22, rfl, trivial⟩ ?_
         rintro fr24 ⟨s0, s1, s2, s3, s4, s5, s8, s9, s10, s12, s14, s22, s41, _⟩
         refine cw_ret <| fnPost_ret [(bl (((openQ key nonce la lc).length : Int) == 0))] ⟨s8, trivial⟩ ?_
         have hd25 : (((openQ key nonce la lc).length : Int) == 0) = true := told_true (open_none oM hb20p)
         exact ⟨congrArg bl hd25, Mem.below w0 hm13⟩

end Go.Proofs.YtmiagmbgfhakgaaDoor

