/- The laws of the seal: their walks, and their plain laws. Conditions: none beyond those that each theorem states. -/
import Derived.Test.YtmiagmbgfhakgaaDoorSe2
import Derived.Test.YtmiagmbgfhakgaaDoorFwL
import Derived.Test.YtmiagmbgfhakgaaDoorFwQ
namespace Go.Proofs.YtmiagmbgfhakgaaDoor
set_option linter.unusedVariables false
set_option linter.unusedSimpArgs false

theorem front_close (c t : List (BitVec 8)) (h : t.length = 32) : frontP (c ++ t) = c := by
  unfold frontP; rw [List.length_append, h, Nat.add_sub_cancel]; exact List.take_left
theorem right_close (key nonce la p : List (BitVec 8)) : rightP key nonce la (closeP key nonce la p) = true := by
  unfold rightP closeP
  rw [front_close _ _ (tagP_length _ _ _ _), List.length_append, tagP_length, Nat.add_sub_cancel, List.drop_left]
  exact beq_self_eq_true _
theorem err_close (key nonce la p : List (BitVec 8)) : errO key nonce la (closeP key nonce la p) = 0 := by
  rw [errO_told (by rw [closeP_length]; omega) (right_close key nonce la p)]; rfl
theorem cipher_twice (key nonce p : List (BitVec 8)) : cipherP key nonce (cipherP key nonce p) = p := turn_turn _ _ _ _ _
theorem open_close (key nonce la p : List (BitVec 8)) : openQ key nonce la (closeP key nonce la p) = p := by
  rw [openQ_told (by rw [closeP_length]; omega) (right_close key nonce la p)]
  show cipherP key nonce (frontP (closeP key nonce la p)) = p
  unfold closeP
  rw [front_close _ _ (tagP_length _ _ _ _), cipher_twice]
theorem bad_tag {key nonce la p : List (BitVec 8)} {j : Nat} {e : BitVec 8} (h1 : p.length ≤ j) (h2 : j < p.length + 32) (he : e ≠ 0) : errO key nonce la ((closeP key nonce la p).set j ((closeP key nonce la p).getD j 0 ^^^ e)) = 10 := by
  have hl : ((closeP key nonce la p).set j ((closeP key nonce la p).getD j 0 ^^^ e)).length = p.length + 32 := by rw [List.length_set, closeP_length]
  have hr : rightP key nonce la ((closeP key nonce la p).set j ((closeP key nonce la p).getD j 0 ^^^ e)) = false := by
    unfold rightP frontP
    rw [hl, Nat.add_sub_cancel]
    have e1 : ((closeP key nonce la p).set j ((closeP key nonce la p).getD j 0 ^^^ e)).take p.length = cipherP key nonce p := by
      rw [List.take_set_of_le h1]
      unfold closeP
      rw [← cipherP_length key nonce p, List.take_left]
    rw [e1]
    refine beq_eq_false_iff_ne.2 fun hc => he ?_
    have e2 := congrArg (fun l : List (BitVec 8) => l.getD (j - p.length) 0) hc
    simp only [List.getD_eq_getElem?_getD, List.getElem?_drop, show p.length + (j - p.length) = j by omega] at e2
    rw [List.getElem?_set_self (by rw [closeP_length]; omega)] at e2
    have e3 : (closeP key nonce la p)[j]? = (tagP key nonce la (cipherP key nonce p))[j - p.length]? := by
      unfold closeP
      rw [List.getElem?_append_right (by rw [cipherP_length]; omega), cipherP_length]
    rw [e3] at e2
    simp only [Option.getD_some] at e2
    generalize (tagP key nonce la (cipherP key nonce p))[j - p.length]?.getD 0 = q at e2
    have e4 : q ^^^ q = q ^^^ (q ^^^ e) := congrArg (q ^^^ ·) e2
    rw [BitVec.xor_self, ← BitVec.xor_assoc, BitVec.xor_self, BitVec.zero_xor] at e4
    exact e4.symm
  rw [errO_told (by rw [hl]; omega) hr]; rfl
theorem close_front {key nonce la p : List (BitVec 8)} {k : Nat} (h : k < p.length) : (closeP key nonce la p).getD k 0 = (cipherP key nonce p).getD k 0 := by
  unfold closeP
  simp only [List.getD_eq_getElem?_getD]
  rw [List.getElem?_append_left (by rw [cipherP_length]; exact h)]
theorem close_xor {key nonce ls a b : List (BitVec 8)} {k : Nat} (h : k < a.length) (hl : b.length = a.length) : (closeP key nonce ls a).getD k 0 ^^^ (closeP key nonce ls b).getD k 0 = a.getD k 0 ^^^ b.getD k 0 := by
  rw [close_front h, close_front oM]
  unfold cipherP
  rw [turnP_get, turnP_get]
  simp only [List.getD_eq_getElem?_getD, List.getElem?_map]
  rw [List.getElem?_range h, List.getElem?_range oM]
  simp only [Option.map_some, Option.getD_some, turnByte]
  simp only [List.getD_eq_getElem?_getD]
  generalize (blockP (keyT key) (1#32 + BitVec.ofNat 32 (k / 64)) nonce)[k % 64]?.getD 0 = q
  generalize a[k]?.getD 0 = x
  generalize b[k]?.getD 0 = y
  rw [BitVec.xor_assoc, BitVec.xor_comm q, BitVec.xor_assoc, BitVec.xor_self, BitVec.xor_zero]
theorem close_same {key nonce ls a b : List (BitVec 8)} (hl : b.length = a.length) : (closeP key nonce ls a == closeP key nonce ls b) = (a == b) := by
  rw [Bool.eq_iff_iff, beq_iff_eq, beq_iff_eq]
  constructor
  · intro h
    unfold closeP at h
    have h1 := (List.append_inj h (by rw [cipherP_length, cipherP_length, hl])).1
    rw [← cipher_twice key nonce a, h1, cipher_twice]
  · rintro rfl; rfl
theorem nl3 : (closeP (List.replicate 32 0#8) (List.replicate 12 0#8) [] []).length = 32 := closeP_length _ _ _ _

attribute [local irreducible] hmacP tK outK expandP extractP keysQ expandQ errK errP turnP blockP blockR msgP closeP openQ errO cipherP tagP
set_option maxHeartbeats 1000000 in
theorem c_speaks04  (w0 : World)  (hT : Tabs (blks w0)) : CallsR Tryd.prog 10 #[] w0 (fun r w1 => r = (bl true) ∧ Ext w0 w1) := by
 refine callsR_of_cw (args := []) Tryd.func10 rfl Tryd.ntmps10 Tryd.results10 rfl ?_
 have hm0 : Mem w0 (restOf w0) [] := Mem.of_world w0
 refine cw_seq (cw_region ?_)
 refine rw_q rfl (ev_assign (v := (bl false)) rfl) ?_
 refine rw_nil (kThen_normal (cw_seq (cw_region ?_)))
 refine rw_q rfl (ev_build_arr (ps := []) (c := (cl u8 (List.replicate 32 0))) ti23 uT23 ti5 (by simp) rfl) <| rw_q rfl (ev_build_arr (ps := []) (c := (cl u8 (List.replicate 12 0))) ti25 uT25 ti5 (by simp) rfl) <| rw_c rfl (opR_call Tryd.func11 bd11 nm11 (args4 rfl rfl rfl rfl) (c_seal (List.replicate 32 0) (List.replicate 12 0) (Value.slice none 0 0) ([]) (Value.slice none 0 0) ([]) _ (hT.mono fun b o e => (hm0).rest b o e) sD sD (Rd.nil _ _) sD (Rd.nil _ _) sD)) ?_
 rintro rxq2 w1 ⟨Hsq2, grxq2, k_w1⟩
 have hm1 : Mem w1 (restOf w0) (Hsq2 ++ ([])) := Mem.new (H := []) (H' := Hsq2) hm0 k_w1
 refine rA rfl (v := rxq2) rfl ?_
 refine rw_nil (kThen_normal (cw_seq (cw_region ?_)))
 refine rw_q rfl (ev_build_arr (ps := []) (c := (cl u8 (List.replicate 32 0))) ti23 uT23 ti5 (by simp) rfl) <| rw_q rfl (ev_build_arr (ps := []) (c := (cl u8 (List.replicate 12 0))) ti25 uT25 ti5 (by simp) rfl) <| rM rfl (v := rxq2) rfl <| rw_c rfl (opR_call Tryd.func12 bd12 nm12 (args4 rfl rfl rfl rfl) (c_open (List.replicate 32 0) (List.replicate 12 0) (Value.slice none 0 0) ([]) rxq2 (closeP (List.replicate 32 0) (List.replicate 12 0) ([]) ([])) _ (hT.mono fun b o e => (hm1).rest b o e) sD sD (Rd.nil _ _) sD (grxq2.rd hm1) sD)) ?_
 rintro _ w3 ⟨vxq4, Hsq4, rfl, gvxq4, k_w3⟩
 have hm3 : Mem w3 (restOf w0) (Hsq4 ++ (Hsq2 ++ ([]))) := Mem.new (H := Hsq2 ++ ([])) (H' := Hsq4) hm1 k_w3
 refine rM rfl rfl <| rw_q (v := vxq4) rfl (ev_extract rfl rfl) <| rw_q (v := (i64 (errO (List.replicate 32 0) (List.replicate 12 0) ([]) (closeP (List.replicate 32 0) (List.replicate 12 0) ([]) ([]))))) rfl (ev_extract rfl rfl) <| rA rfl (v := vxq4) rfl <| rA rfl rfl ?_
 refine rw_nil (kThen_normal ?_)
 refine CW.abs (fun g => g 0 = (bl false) ∧ g 1 = rxq2 ∧ g 2 = vxq4 ∧ g 3 = (i64 (errO (List.replicate 32 0) (List.replicate 12 0) ([]) (closeP (List.replicate 32 0) (List.replicate 12 0) ([]) ([])))) ∧ True) ⟨rfl, rfl, rfl, rfl, trivial⟩ ?_
 rintro fr5 ⟨s0, s1, s2, s3, _⟩
 refine cw_seq (cw_seq (cw_region ?_))
 refine rM rfl s1 <| rw_q (v := (i64 ((closeP (List.replicate 32 0) (List.replicate 12 0) ([]) ([])).length : Int))) rfl (ev_len_rd (grxq2.rd (Mem.pick Hsq4 Hsq2 _ hm3)) uT26 rfl) <| rw_q rfl (ev_i64_neq (b := 32) rfl rfl) <| rM rfl rfl ?_
 have hd6 : (((closeP (List.replicate 32 0) (List.replicate 12 0) ([]) ([])).length : Int) != 32) = false := told_ne (by rw [closeP_length]; rfl)
 refine rw_gyq (s := 17) rfl rfl hd6 rfl (ev_move s3) <| rw_gyq (s := 17) rfl rfl hd6 rfl (ev_i64_neq (b := 0) rfl rfl) <| rw_q rfl (ev_pick_fk rfl hd6 rfl) <| rM rfl rfl ?_
 have hd7 : ((errO (List.replicate 32 0) (List.replicate 12 0) ([]) (closeP (List.replicate 32 0) (List.replicate 12 0) ([]) ([]))) != 0) = false := told_ne (err_close _ _ _ _)
 refine rw_gyq (s := 21) rfl rfl hd7 rfl (ev_move s2) <| rw_gyq (s := 21) rfl rfl hd7 rfl (ev_len_rd (gvxq4.rd hm3) uT26 rfl) <| rw_gyq (s := 21) rfl rfl hd7 rfl (ev_i64_neq (b := 0) rfl rfl) <| rw_q rfl (ev_pick_fk rfl hd7 rfl) ?_
 refine rw_nil (kThen_normal ?_)
 refine CW.abs (fun g => g 0 = (bl false) ∧ g 1 = rxq2 ∧ g 2 = vxq4 ∧ g 3 = (i64 (errO (List.replicate 32 0) (List.replicate 12 0) ([]) (closeP (List.replicate 32 0) (List.replicate 12 0) ([]) ([])))) ∧ g 25 = (bl (((openQ (List.replicate 32 0) (List.replicate 12 0) ([]) (closeP (List.replicate 32 0) (List.replicate 12 0) ([]) ([]))).length : Int) != 0)) ∧ True) ⟨s0, s1, s2, s3, rfl, trivial⟩ ?_
 rintro fr8 ⟨s0, s1, s2, s3, s25, _⟩
 have hd9 : (((openQ (List.replicate 32 0) (List.replicate 12 0) ([]) (closeP (List.replicate 32 0) (List.replicate 12 0) ([]) ([]))).length : Int) != 0) = false := told_ne (by rw [open_close]; rfl)
 refine cw_cond_f s25 hd9 ?_
 refine cw_skip (kThen_normal (cw_seq ?_))
 have hnl := nl3
 refine cw_region <| rM rfl s1 <| rw_q rfl (ev_indexAddr_rdv (i := 3) (grxq2.rd (Mem.pick Hsq4 Hsq2 _ hm3)) uT26 ti5 rfl rfl oM sD) <| rw_q (v := (u8 ((closeP (List.replicate 32 0) (List.replicate 12 0) ([]) ([])).getD 3 0))) rfl (ev_load_rdD (l := closeP (List.replicate 32 0) (List.replicate 12 0) ([]) ([])) (i := 3) (dflt := 0) (grxq2.rd (Mem.pick Hsq4 Hsq2 _ hm3)) uT5 rfl oM sD rfl) <| rw_q rfl (ev_u8_xor (b := 4#8) rfl rfl) <| rw_q rfl (ev_indexAddr_rdv (i := 3) (grxq2.rd (Mem.pick Hsq4 Hsq2 _ hm3)) uT26 ti5 rfl rfl oM sD) ?_
 refine rw_n (or_store_grow (Hs := Hsq2) (H := Hsq4 ++ ([])) (i := 3) (a := ((closeP (List.replicate 32 0) (List.replicate 12 0) ([]) ([])).getD 3 0) ^^^ 4#8) (Mem.pick Hsq4 Hsq2 _ hm3) grxq2 u8_one ti5 oM sD rfl rfl) ?_
 rintro _ w10 ⟨Hs10, hm10, g10⟩
 replace g10 : Grow u8 5 rxq2 ((closeP (List.replicate 32 0) (List.replicate 12 0) ([]) ([])).set 3 (((closeP (List.replicate 32 0) (List.replicate 12 0) ([]) ([])).getD 3 0) ^^^ 4#8)) Hs10 := g10
 refine rw_nil (kThen_normal (cw_seq ?_))
 have hnl := nl3
 refine cw_region <| rw_q rfl (ev_build_arr (ps := []) (c := (cl u8 (List.replicate 32 0))) ti23 uT23 ti5 (by simp) rfl) <| rw_q rfl (ev_build_arr (ps := []) (c := (cl u8 (List.replicate 12 0))) ti25 uT25 ti5 (by simp) rfl) <| rM rfl s1 <| rw_c rfl (opR_call Tryd.func12 bd12 nm12 (args4 rfl rfl rfl rfl) (c_open (List.replicate 32 0) (List.replicate 12 0) (Value.slice none 0 0) ([]) rxq2 ((closeP (List.replicate 32 0) (List.replicate 12 0) ([]) ([])).set 3 (((closeP (List.replicate 32 0) (List.replicate 12 0) ([]) ([])).getD 3 0) ^^^ 4#8)) _ (hT.mono fun b o e => (hm10).rest b o e) sD sD (Rd.nil _ _) sD (g10.rd hm10) sD)) ?_
 rintro _ w11 ⟨vxq12, Hsq12, rfl, gvxq12, k_w11⟩
 have hm11 : Mem w11 (restOf w0) (Hsq12 ++ (Hs10 ++ (Hsq4 ++ ([])))) := Mem.new (H := Hs10 ++ (Hsq4 ++ ([]))) (H' := Hsq12) hm10 k_w11
 refine rM rfl rfl <| rw_q (v := vxq12) rfl (ev_extract rfl rfl) <| rw_q (v := (i64 (errO (List.replicate 32 0) (List.replicate 12 0) ([]) ((closeP (List.replicate 32 0) (List.replicate 12 0) ([]) ([])).set 3 (((closeP (List.replicate 32 0) (List.replicate 12 0) ([]) ([])).getD 3 0) ^^^ 4#8))))) rfl (ev_extract rfl rfl) <| rA rfl rfl ?_
 refine rw_nil (kThen_normal ?_)
 have hm13 := Mem.drop Hsq12 _ hm11
 refine CW.abs (fun g => g 0 = (bl false) ∧ g 1 = rxq2 ∧ g 2 = vxq4 ∧ g 3 = (i64 (errO (List.replicate 32 0) (List.replicate 12 0) ([]) ((closeP (List.replicate 32 0) (List.replicate 12 0) ([]) ([])).set 3 (((closeP (List.replicate 32 0) (List.replicate 12 0) ([]) ([])).getD 3 0) ^^^ 4#8)))) ∧ g 25 = (bl (((openQ (List.replicate 32 0) (List.replicate 12 0) ([]) (closeP (List.replicate 32 0) (List.replicate 12 0) ([]) ([]))).length : Int) != 0)) ∧ True) ⟨s0, s1, s2, rfl, s25, trivial⟩ ?_
 rintro fr14 ⟨s0, s1, s2, s3, s25, _⟩
 refine cw_seq (cw_region ?_)
 refine rM rfl s3 <| rw_q rfl (ev_i64_eql (b := 10) rfl rfl) <| rM rfl rfl ?_
 have hd15 : ((errO (List.replicate 32 0) (List.replicate 12 0) ([]) ((closeP (List.replicate 32 0) (List.replicate 12 0) ([]) ([])).set 3 (((closeP (List.replicate 32 0) (List.replicate 12 0) ([]) ([])).getD 3 0) ^^^ 4#8))) == 10) = true := told_true (bad_tag (Nat.zero_le _) (by decide) (by decide))
 refine rw_gy (s := 40) rfl rfl hd15 rfl (or_buildSlice_cl u8 [1#8] u8_one hm13 uT26 ti5 rfl rfl rfl) ?_
 rintro _ w16 ⟨b41, rfl, _ew16, hm16⟩
 refine rw_gy (s := 40) rfl rfl hd15 rfl (or_buildSlice_cl u8 [1#8] u8_one hm16 uT26 ti5 rfl rfl rfl) ?_
 rintro _ w17 ⟨b42, rfl, _ew17, hm17⟩
 refine rw_gy (s := 40) rfl rfl hd15 rfl (opR_call Tryd.func18 bd18 nm18 (args2 rfl rfl) (c_ssame (slc b41 0 1 1) (slc b42 0 1 1) ([1#8]) ([1#8]) _ (Rd.mkA hm17.h1) (Rd.mkA hm17.h0) sD)) ?_
 rintro _ w18 ⟨rfl, _ew18⟩
 have hm18 := hm17.ext _ew18
 refine rw_q rfl (ev_pick_tk rfl hd15 rfl) <| rw_q rfl (ev_move (v := (bl (([1#8]) == ([1#8])))) rfl) ?_
 have hd20 : (([1#8]) == ([1#8])) = true := told_true rfl
 refine rw_gy (s := 45) rfl rfl hd20 rfl (or_buildSlice_cl u8 [1#8] u8_one hm18 uT26 ti5 rfl rfl rfl) ?_
 rintro _ w21 ⟨b46, rfl, _ew21, hm21⟩
 refine rw_gy (s := 45) rfl rfl hd20 rfl (opR_call Tryd.func18 bd18 nm18 (args2 rfl rfl) (c_ssame (slc b46 0 1 1) (Value.slice none 0 0) ([1#8]) ([]) _ (Rd.mkA hm21.h0) (Rd.nil _ _) sD)) ?_
 rintro _ w22 ⟨rfl, _ew22⟩
 have hm22 := hm21.ext _ew22
 refine rw_gyq (s := 45) rfl rfl hd20 rfl (ev_not rfl) <| rw_q rfl (ev_pick_tk rfl hd20 rfl) <| rw_q rfl (ev_assign (v := (bl (!(([1#8]) == ([]))))) rfl) ?_
 refine rw_nil (kThen_normal ?_)
 have hm24 := Mem.drop ([(b46, .cells (cl u8 ([1#8])) 5 (0, 0))]) _ hm22
 have hm25 := Mem.drop ([(b42, .cells (cl u8 ([1#8])) 5 (0, 0))]) _ hm24
 have hm26 := Mem.drop ([(b41, .cells (cl u8 ([1#8])) 5 (0, 0))]) _ hm25
 refine CW.abs (fun g => g 0 = (bl (!(([1#8]) == ([])))) ∧ g 1 = rxq2 ∧ g 2 = vxq4 ∧ g 3 = (i64 (errO (List.replicate 32 0) (List.replicate 12 0) ([]) ((closeP (List.replicate 32 0) (List.replicate 12 0) ([]) ([])).set 3 (((closeP (List.replicate 32 0) (List.replicate 12 0) ([]) ([])).getD 3 0) ^^^ 4#8)))) ∧ g 25 = (bl (((openQ (List.replicate 32 0) (List.replicate 12 0) ([]) (closeP (List.replicate 32 0) (List.replicate 12 0) ([]) ([]))).length : Int) != 0)) ∧ True) ⟨rfl, s1, s2, s3, s25, trivial⟩ ?_
 rintro fr27 ⟨s0, s1, s2, s3, s25, _⟩
 refine cw_ret <| fnPost_ret [(bl (!(([1#8]) == ([]))))] ⟨s0, trivial⟩ ?_
 exact ⟨congrArg bl (by decide), hm26.toExt⟩

set_option maxHeartbeats 2000000 in
theorem law_skeys (key : List (BitVec 8)) (nonce : List (BitVec 8)) (vs : Value) (ls : List (BitVec 8)) (va : Value) (la : List (BitVec 8)) (vb : Value) (lb : List (BitVec 8)) (w0 : World)  (hT : Tabs (blks w0)) (hk : key.length = 32) (hn : nonce.length = 12) (hrs : Rd (blks w0) u8 vs ls) (hlhrs : ls.length ≤ 9223372036854775807) (hra : Rd (blks w0) u8 va la) (hlhra : la.length ≤ 9223372036854775807) (hrb : Rd (blks w0) u8 vb lb) (hlhrb : lb.length ≤ 9223372036854775807) : CallsR Tryd.prog 6 #[(agg u8 key), (agg u8 nonce), vs, va, vb] w0 (fun r w1 => r = bl true ∧ RowKit.Below w0.heap.size w0 w1) := by
 refine callsR_of_cw (args := [(agg u8 key), (agg u8 nonce), vs, va, vb]) Tryd.func6 rfl Tryd.ntmps6 Tryd.results6 rfl ?_
 have hm0 : Mem w0 (restOf w0) [] := Mem.of_world w0
 refine cw_seq (cw_region ?_)
 refine rw_c rfl (or_box_agg (f := u8) (l := key) hm0 rfl) ?_
 rintro _ w1 ⟨b5, rfl, _ew1, hm1⟩
 refine rw_c rfl (or_box_agg (f := u8) (l := nonce) hm1 rfl) ?_
 rintro _ w2 ⟨b6, rfl, _ew2, hm2⟩
 refine rw_q rfl (ev_assign (v := (bl false)) rfl) ?_
 refine rw_nil (kThen_normal (cw_seq (cw_seq (cw_region ?_))))
 refine rw_c rfl (opR_call Tryd.func10 bd10 nm10 (args0) (c_speaks04 _ (hT.mono fun b o e => (hm2).rest b o e))) ?_
 rintro _ w3 ⟨rfl, _ew3⟩
 have hm3 := hm2.ext _ew3
 refine rw_q (v := (bl false)) rfl (ev_not (b := true) rfl) ?_
 refine rw_nil (kThen_normal ?_)
 refine cw_cond_f rfl (by decide) ?_
 refine cw_skip (kThen_normal (cw_seq (cw_seq (cw_region ?_))))
 refine rM rfl (v := va) rfl <| rw_q (v := (i64 (la.length : Int))) rfl (ev_len_rd (Rd.ofRest hra hm3) uT26 rfl) <| rw_q rfl (ev_i64_gtr (b := 1000) rfl rfl) <| rw_q rfl (ev_move (v := (bl (decide (1000 < (la.length : Int))))) rfl) ?_
 rcases Bool.eq_false_or_eq_true (decide (1000 < (la.length : Int))) with hb5 | hb5
 · -- true
   have hb5p := of_decide_eq_true hb5
   refine rw_gn (s := 19) rfl rfl hb5 rfl <| rw_gn (s := 19) rfl rfl hb5 rfl <| rw_gn (s := 19) rfl rfl hb5 rfl <| rw_gn (s := 19) rfl rfl hb5 rfl <| rw_gn (s := 19) rfl rfl hb5 rfl <| rw_q rfl (ev_pick_tk rfl hb5 rfl) ?_
   refine rw_q rfl (ev_move (v := (bl true)) rfl) <| rw_gn (s := 26) rfl rfl rfl rfl <| rw_gn (s := 26) rfl rfl rfl rfl <| rw_gn (s := 26) rfl rfl rfl rfl <| rw_q rfl (ev_pick_t rfl rfl) ?_
   refine rw_nil (kThen_normal ?_)
   refine CW.abs (fun g => g 0 = (agg u8 key) ∧ g 1 = (agg u8 nonce) ∧ g 2 = vs ∧ g 3 = va ∧ g 4 = vb ∧ g 5 = (ptr b5 0) ∧ g 6 = (ptr b6 0) ∧ g 10 = (bl false) ∧ g 15 = (bl false) ∧ g 30 = (bl true) ∧ True) ⟨rfl, rfl, rfl, rfl, rfl, rfl, rfl, rfl, rfl, rfl, trivial⟩ ?_
   rintro fr6 ⟨s0, s1, s2, s3, s4, s5, s6, s10, s15, s30, _⟩
   refine cw_cond_t s30 (by decide) ?_
   refine cw_seq (cw_region ?_)
   refine rw_q rfl (ev_assign (v := (bl true)) rfl) ?_
   refine rw_nil (kThen_normal (cw_ret (kThen_ret ?_)))
   refine fnPost_ret [(bl true)] ⟨rfl, trivial⟩ ?_
   exact ⟨rfl, Mem.below w0 hm3⟩
 · -- false
   have hb5p := of_decide_eq_false hb5
   refine rw_gyq (s := 19) rfl rfl hb5 rfl (ev_move (v := vb) rfl) <| rw_gyq (s := 19) rfl rfl hb5 rfl (ev_len_rd (Rd.ofRest hrb hm3) uT26 rfl) <| rw_gyq (s := 19) rfl rfl hb5 rfl (ev_move (v := va) rfl) <| rw_gyq (s := 19) rfl rfl hb5 rfl (ev_len_rd (Rd.ofRest hra hm3) uT26 rfl) <| rw_gyq (s := 19) rfl rfl hb5 rfl (ev_i64_lss rfl rfl) <| rw_q rfl (ev_pick_fk rfl hb5 rfl) ?_
   refine rw_q rfl (ev_move (v := (bl (decide ((lb.length : Int) < (la.length : Int))))) rfl) ?_
   rcases Bool.eq_false_or_eq_true (decide ((lb.length : Int) < (la.length : Int))) with hb7 | hb7
   · -- true
     have hb7p := of_decide_eq_true hb7
     refine rw_gn (s := 26) rfl rfl hb7 rfl <| rw_gn (s := 26) rfl rfl hb7 rfl <| rw_gn (s := 26) rfl rfl hb7 rfl <| rw_q rfl (ev_pick_tk rfl hb7 rfl) ?_
     refine rw_nil (kThen_normal ?_)
     refine CW.abs (fun g => g 0 = (agg u8 key) ∧ g 1 = (agg u8 nonce) ∧ g 2 = vs ∧ g 3 = va ∧ g 4 = vb ∧ g 5 = (ptr b5 0) ∧ g 6 = (ptr b6 0) ∧ g 10 = (bl false) ∧ g 15 = (bl false) ∧ g 30 = (bl true) ∧ True) ⟨rfl, rfl, rfl, rfl, rfl, rfl, rfl, rfl, rfl, rfl, trivial⟩ ?_
     rintro fr8 ⟨s0, s1, s2, s3, s4, s5, s6, s10, s15, s30, _⟩
     refine cw_cond_t s30 (by decide) ?_
     refine cw_seq (cw_region ?_)
     refine rw_q rfl (ev_assign (v := (bl true)) rfl) ?_
     refine rw_nil (kThen_normal (cw_ret (kThen_ret ?_)))
     refine fnPost_ret [(bl true)] ⟨rfl, trivial⟩ ?_
     exact ⟨rfl, Mem.below w0 hm3⟩
   · -- false
     have hb7p := of_decide_eq_false hb7
     refine rw_gyq (s := 26) rfl rfl hb7 rfl (ev_move (v := vs) rfl) <| rw_gyq (s := 26) rfl rfl hb7 rfl (ev_len_rd (Rd.ofRest hrs hm3) uT26 rfl) <| rw_gyq (s := 26) rfl rfl hb7 rfl (ev_i64_gtr (b := 300) rfl rfl) <| rw_q rfl (ev_pick_fk rfl hb7 rfl) ?_
     refine rw_nil (kThen_normal ?_)
     refine CW.abs (fun g => g 0 = (agg u8 key) ∧ g 1 = (agg u8 nonce) ∧ g 2 = vs ∧ g 3 = va ∧ g 4 = vb ∧ g 5 = (ptr b5 0) ∧ g 6 = (ptr b6 0) ∧ g 10 = (bl false) ∧ g 15 = (bl false) ∧ g 30 = (bl (decide (300 < (ls.length : Int)))) ∧ True) ⟨rfl, rfl, rfl, rfl, rfl, rfl, rfl, rfl, rfl, rfl, trivial⟩ ?_
     rintro fr9 ⟨s0, s1, s2, s3, s4, s5, s6, s10, s15, s30, _⟩
     refine cw_cond s30 (fun hc10 => ?_) (fun hc10 => ?_)
     · -- true
       have hc10p := of_decide_eq_true hc10
       refine cw_seq (cw_region ?_)
       refine rw_q rfl (ev_assign (v := (bl true)) rfl) ?_
       refine rw_nil (kThen_normal (cw_ret (kThen_ret ?_)))
       refine fnPost_ret [(bl true)] ⟨rfl, trivial⟩ ?_
       exact ⟨rfl, Mem.below w0 hm3⟩
     · -- false
       have hc10p := of_decide_eq_false hc10
       refine cw_skip (kThen_normal (cw_seq (cw_region ?_)))
       refine rM rfl s4 <| rM rfl s3 <| rw_q (v := (i64 (la.length : Int))) rfl (ev_len_rd (Rd.ofRest hra hm3) uT26 rfl) <| rw_q rfl (ev_slice_rd (i := 0) (j := (la.length : Int)) (Rd.ofRest hrb hm3) uT26 ti5 rfl (optI_none _ _) (optI_some (k := .i64) (i := (la.length : Int)) rfl) oM sD sD) <| rw_q rfl (ev_assign (v := (subv vb 0 (la.length : Int))) rfl) ?_
       refine rw_nil (kThen_normal (cw_seq ?_))
       obtain ⟨lq, hlq⟩ : ∃ q, (lb.drop (0 : Int).toNat).take (((la.length : Int) : Int).toNat - (0 : Int).toNat) = q := ⟨_, rfl⟩
       have hlql : lq.length = la.length := by rw [← hlq]; simp; omega
       have hca := closeP_length key nonce ls la
       have hcb := closeP_length key nonce ls lq
       refine cw_draw [(0, false), (1, false), (2, false), (3, false), (5, false), (6, false), (7, false), (8, false), (4, true)] 9 (by kernel_rfl) <| dw_q (v := (agg u8 key)) rfl rfl (fun _ _hx => ev_loadA uT23 rfl ti23 s5 (hm3.ext _hx).h1 sZ) <| dw_q (v := (agg u8 nonce)) rfl rfl (fun _ _hx => ev_loadA uT25 rfl ti25 s6 (hm3.ext _hx).h0 sZ) <| dM rfl rfl s2 <| dM rfl rfl s3 <| dw_q (v := (agg u8 key)) rfl rfl (fun _ _hx => ev_loadA uT23 rfl ti23 s5 (hm3.ext _hx).h1 sZ) ?_
       refine dw_q (v := (agg u8 nonce)) rfl rfl (fun _ _hx => ev_loadA uT25 rfl ti25 s6 (hm3.ext _hx).h0 sZ) <| dM rfl rfl s2 <| dw_q rfl rfl (fun _ _hx => ev_move (v := (subv vb 0 (la.length : Int))) rfl) ?_
       refine dw_c rfl rfl (fun w11 _ew11 => ?_)
       have hm11 := hm3.ext _ew11
       refine OpR.mono (opR_call Tryd.func11 bd11 nm11 (args4 rfl rfl rfl rfl) (c_seal key nonce vs ls va la _ (hT.mono fun b o e => (hm11).rest b o e) sD sD (Rd.ofRest hrs hm11) sD (Rd.ofRest hra hm11) sD)) ?_
       rintro rxq13 w12 ⟨Hsq13, grxq13, k_w12⟩
       refine ⟨k_w12.toExt, ?_⟩
       have hm12 : Mem w12 (restOf w0) (Hsq13 ++ ([(b6, .cells (cl u8 nonce) 25 (0, 0)), (b5, .cells (cl u8 key) 23 (0, 0))])) := Mem.new (H := [(b6, .cells (cl u8 nonce) 25 (0, 0)), (b5, .cells (cl u8 key) 23 (0, 0))]) (H' := Hsq13) hm11 k_w12
       refine dw_nil (fun w14 _ew14 => ?_)
       have hm14 := hm12.ext _ew14
       refine rw_c rfl (opR_call Tryd.func11 bd11 nm11 (args4 rfl rfl rfl rfl) (c_seal key nonce vs ls (subv vb 0 (la.length : Int)) lq _ (hT.mono fun b o e => (hm14).rest b o e) sD sD (Rd.ofRest hrs hm14) sD (Rd.cast (Rd.cast (l' := (lb.drop (0 : Int).toNat).take (((la.length : Int) : Int).toNat - (0 : Int).toNat)) (Rd.sub (Rd.ofRest hrb hm14) oM sD sD) rfl) hlq) sD)) ?_
       rintro rxq16 w15 ⟨Hsq16, grxq16, k_w15⟩
       have hm15 : Mem w15 (restOf w0) (Hsq16 ++ (Hsq13 ++ ([(b6, .cells (cl u8 nonce) 25 (0, 0)), (b5, .cells (cl u8 key) 23 (0, 0))]))) := Mem.new (H := Hsq13 ++ ([(b6, .cells (cl u8 nonce) 25 (0, 0)), (b5, .cells (cl u8 key) 23 (0, 0))])) (H' := Hsq16) hm14 k_w15
       refine rA rfl (v := rxq13) rfl <| rA rfl (v := rxq16) rfl ?_
       refine rw_nil (kThen_normal ?_)
       refine CW.abs (fun g => g 0 = (agg u8 key) ∧ g 1 = (agg u8 nonce) ∧ g 2 = vs ∧ g 3 = va ∧ g 4 = (subv vb 0 (la.length : Int)) ∧ g 5 = (ptr b5 0) ∧ g 6 = (ptr b6 0) ∧ g 10 = (bl false) ∧ g 11 = rxq13 ∧ g 12 = rxq16 ∧ g 15 = (bl false) ∧ g 30 = (bl (decide (300 < (ls.length : Int)))) ∧ True) ⟨s0, s1, s2, s3, rfl, s5, s6, s10, rfl, rfl, s15, s30, trivial⟩ ?_
       rintro fr17 ⟨s0, s1, s2, s3, s4, s5, s6, s10, s11, s12, s15, s30, _⟩
       refine cw_seq (cw_seq (cw_region ?_))
       refine rM rfl s11 <| rw_q (v := (i64 ((closeP key nonce ls la).length : Int))) rfl (ev_len_rd (grxq13.rd (Mem.pick Hsq16 Hsq13 _ hm15)) uT26 rfl) <| rM rfl s3 <| rw_q (v := (i64 (la.length : Int))) rfl (ev_len_rd (Rd.ofRest hra hm15) uT26 rfl) <| rw_q rfl (ev_i64_add (b := 32) rfl rfl oM oM) <| rw_q rfl (ev_i64_neq rfl rfl) ?_
       refine rw_q rfl (ev_move (v := (bl (((closeP key nonce ls la).length : Int) != ((la.length : Int) + 32)))) rfl) ?_
       have hd18 : (((closeP key nonce ls la).length : Int) != ((la.length : Int) + 32)) = false := told_ne (by simp only [closeP_length]; omega)
       refine rw_gyq (s := 51) rfl rfl hd18 rfl (ev_move s12) <| rw_gyq (s := 51) rfl rfl hd18 rfl (ev_len_rd (grxq16.rd hm15) uT26 rfl) <| rw_gyq (s := 51) rfl rfl hd18 rfl (ev_move s11) <| rw_gyq (s := 51) rfl rfl hd18 rfl (ev_len_rd (grxq13.rd (Mem.pick Hsq16 Hsq13 _ hm15)) uT26 rfl) <| rw_gyq (s := 51) rfl rfl hd18 rfl (ev_i64_neq rfl rfl) <| rw_q rfl (ev_pick_fk rfl hd18 rfl) ?_
       refine rw_nil (kThen_normal ?_)
       refine CW.abs (fun g => g 0 = (agg u8 key) ∧ g 1 = (agg u8 nonce) ∧ g 2 = vs ∧ g 3 = va ∧ g 4 = (subv vb 0 (la.length : Int)) ∧ g 5 = (ptr b5 0) ∧ g 6 = (ptr b6 0) ∧ g 10 = (bl false) ∧ g 11 = rxq13 ∧ g 12 = rxq16 ∧ g 15 = (bl false) ∧ g 30 = (bl (decide (300 < (ls.length : Int)))) ∧ g 57 = (bl (((closeP key nonce ls lq).length : Int) != ((closeP key nonce ls la).length : Int))) ∧ True) ⟨s0, s1, s2, s3, s4, s5, s6, s10, s11, s12, s15, s30, rfl, trivial⟩ ?_
       rintro fr19 ⟨s0, s1, s2, s3, s4, s5, s6, s10, s11, s12, s15, s30, s57, _⟩
       have hd20 : (((closeP key nonce ls lq).length : Int) != ((closeP key nonce ls la).length : Int)) = false := told_ne (by simp only [closeP_length]; omega)
       refine cw_cond_f s57 hd20 ?_
       refine cw_skip (kThen_normal (cw_seq (cw_seq (cw_region ?_))))
       refine rM rfl s3 <| rw_q (v := (i64 (la.length : Int))) rfl (ev_len_rd (Rd.ofRest hra hm15) uT26 rfl) <| rw_q rfl (ev_move (v := (i64 0)) rfl) ?_
       refine rw_nil (kThen_normal (cw_block ?_))
       refine cw_loop (fun g wv => ∃ (k : Nat), (k ≤ la.length) ∧ g 0 = (agg u8 key) ∧ g 1 = (agg u8 nonce) ∧ g 2 = vs ∧ g 3 = va ∧ g 4 = (subv vb 0 (la.length : Int)) ∧ g 5 = (ptr b5 0) ∧ g 6 = (ptr b6 0) ∧ g 11 = rxq13 ∧ g 12 = rxq16 ∧ g 15 = (bl false) ∧ g 30 = (bl (decide (300 < (ls.length : Int)))) ∧ g 57 = (bl (((closeP key nonce ls lq).length : Int) != ((closeP key nonce ls la).length : Int))) ∧ g 59 = (i64 (la.length : Int)) ∧ g 60 = (i64 (k : Int)) ∧ Mem wv (restOf w0) (Hsq16 ++ (Hsq13 ++ ([(b6, .cells (cl u8 nonce) 25 (0, 0)), (b5, .cells (cl u8 key) 23 (0, 0))])))) (fun g wv => ((la.length : Int) - RowKit.intOf (g 60)).toNat) ?_ ?_
       · exact ⟨0, oM, s0, s1, s2, s3, s4, s5, s6, s11, s12, s15, s30, s57, rfl, rfl, hm15⟩
       · rintro fr21 w22 ⟨k, hkl, s0, s1, s2, s3, s4, s5, s6, s11, s12, s15, s30, s57, s59, s60, hm22⟩
         have z60 := s60
         refine cw_seq (cw_region ?_)
         refine rw_q rfl (ev_i64_lss s60 s59) ?_
         refine rw_nil (kThen_normal (cw_seq ?_))
         refine cw_cond rfl (fun hc23 => ?_) (fun hc23 => ?_)
         · -- true
           have hc23p := of_decide_eq_true hc23
           refine cw_skip (kThen_normal (cw_seq (cw_block (cw_seq (cw_region ?_)))))
           refine rM rfl s60 <| rw_q rfl (ev_assign (v := (i64 (k : Int))) rfl) ?_
           refine rw_nil (kThen_normal (cw_seq ?_))
           refine cw_draw [(0, false), (1, false), (2, false), (3, false), (4, false), (5, false), (6, false), (7, false), (8, false), (9, false), (10, false), (11, false), (12, false), (13, false), (14, false), (15, false), (16, false), (17, false)] 18 (by kernel_rfl) <| dM rfl rfl s11 <| dw_q rfl rfl (fun _ _hx => ev_move (v := (i64 (k : Int))) rfl) <| dw_q rfl rfl (fun _ _hx => ev_indexAddr_rdv (grxq13.rd (Mem.pick Hsq16 Hsq13 _ (hm22.ext _hx))) uT26 ti5 rfl rfl oM sD) <| dw_q (v := (u8 ((closeP key nonce ls la).getD k 0))) rfl rfl (fun _ _hx => ev_load_rdD (l := closeP key nonce ls la) (i := (k : Int)) (dflt := 0) (grxq13.rd (Mem.pick Hsq16 Hsq13 _ (hm22.ext _hx))) uT5 rfl oM sD rfl) <| dM rfl rfl s12 ?_
           refine dw_q rfl rfl (fun _ _hx => ev_move (v := (i64 (k : Int))) rfl) <| dw_q rfl rfl (fun _ _hx => ev_indexAddr_rdv (grxq16.rd (hm22.ext _hx)) uT26 ti5 rfl rfl oM sD) <| dw_q (v := (u8 ((closeP key nonce ls lq).getD k 0))) rfl rfl (fun _ _hx => ev_load_rdD (l := closeP key nonce ls lq) (i := (k : Int)) (dflt := 0) (grxq16.rd (hm22.ext _hx)) uT5 rfl oM sD rfl) <| dw_q rfl rfl (fun _ _hx => ev_u8_xor rfl rfl) <| dM rfl rfl s3 <| dw_q rfl rfl (fun _ _hx => ev_move (v := (i64 (k : Int))) rfl) ?_
           refine dw_q rfl rfl (fun _ _hx => ev_indexAddr_rdv (Rd.ofRest hra (hm22.ext _hx)) uT26 ti5 rfl rfl oM sD) <| dw_q (v := (u8 (la.getD k 0))) rfl rfl (fun _ _hx => ev_load_rdD (l := la) (i := (k : Int)) (dflt := 0) (Rd.ofRest hra (hm22.ext _hx)) uT5 rfl oM sD rfl) <| dM rfl rfl s4 <| dw_q rfl rfl (fun _ _hx => ev_move (v := (i64 (k : Int))) rfl) <| dw_q rfl rfl (fun _ _hx => ev_indexAddr_rdv (Rd.cast (Rd.cast (l' := (lb.drop (0 : Int).toNat).take (((la.length : Int) : Int).toNat - (0 : Int).toNat)) (Rd.sub (Rd.ofRest hrb (hm22.ext _hx)) oM sD sD) rfl) hlq) uT26 ti5 rfl rfl oM sD) <| dw_q (v := (u8 (lq.getD k 0))) rfl rfl (fun _ _hx => ev_load_rdD (l := lq) (i := (k : Int)) (dflt := 0) (Rd.cast (Rd.cast (l' := (lb.drop (0 : Int).toNat).take (((la.length : Int) : Int).toNat - (0 : Int).toNat)) (Rd.sub (Rd.ofRest hrb (hm22.ext _hx)) oM sD sD) rfl) hlq) uT5 rfl oM sD rfl) ?_
           refine dw_q rfl rfl (fun _ _hx => ev_u8_xor rfl rfl) ?_
           refine dw_nil (fun w24 _ew24 => ?_)
           have hm24 := hm22.ext _ew24
           refine rw_q rfl (ev_u8_neq rfl rfl) ?_
           refine rw_nil (kThen_normal ?_)
           refine CW.abs (fun g => g 0 = (agg u8 key) ∧ g 1 = (agg u8 nonce) ∧ g 2 = vs ∧ g 3 = va ∧ g 4 = (subv vb 0 (la.length : Int)) ∧ g 5 = (ptr b5 0) ∧ g 6 = (ptr b6 0) ∧ g 11 = rxq13 ∧ g 12 = rxq16 ∧ g 13 = (i64 (k : Int)) ∧ g 15 = (bl false) ∧ g 30 = (bl (decide (300 < (ls.length : Int)))) ∧ g 57 = (bl (((closeP key nonce ls lq).length : Int) != ((closeP key nonce ls la).length : Int))) ∧ g 59 = (i64 (la.length : Int)) ∧ g 60 = (i64 (k : Int)) ∧ g 61 = (bl (decide ((k : Int) < (la.length : Int)))) ∧ g 81 = (bl ((((closeP key nonce ls la).getD k 0) ^^^ ((closeP key nonce ls lq).getD k 0)) != ((la.getD k 0) ^^^ (lq.getD k 0)))) ∧ True) ⟨s0, s1, s2, s3, s4, s5, s6, s11, s12, rfl, s15, s30, s57, s59, s60, rfl, rfl, trivial⟩ ?_
           rintro fr25 ⟨s0, s1, s2, s3, s4, s5, s6, s11, s12, s13, s15, s30, s57, s59, s60, s61, s81, _⟩
           have hd26 : ((((closeP key nonce ls la).getD k 0) ^^^ ((closeP key nonce ls lq).getD k 0)) != ((la.getD k 0) ^^^ (lq.getD k 0))) = false := told_ne (close_xor oM oM)
           refine cw_cond_f s81 hd26 ?_
           refine cw_skip (kBlk_normal (cw_region ?_))
           refine rw_q rfl (ev_i64_add (b := 1) s60 rfl oM oM) <| rw_q rfl (ev_move (v := (i64 ((k : Int) + 1))) rfl) ?_
           refine rw_nil (kThen_normal ?_)
           exact ⟨⟨k + 1, oM, s0, s1, s2, s3, s4, s5, s6, s11, s12, s15, s30, s57, s59, rfl, hm24⟩, meas rfl z60 oM oM⟩
         · -- false
           have hc23p := of_decide_eq_false hc23
           refine cw_exit ?_
           refine kThen_exit (kThen_exit (kBlk_hit ?_))
           refine cw_seq (cw_region ?_)
           refine rM rfl s11 <| rM rfl s12 <| rw_c rfl (opR_call Tryd.func14 bd14 nm14 (args2 rfl rfl) (c_same rxq13 rxq16 (closeP key nonce ls la) (closeP key nonce ls lq) _ (grxq13.rd (Mem.pick Hsq16 Hsq13 _ hm22)) (grxq16.rd hm22) sD)) ?_
           rintro _ w27 ⟨rfl, _ew27⟩
           have hm27 := hm22.ext _ew27
           refine rM rfl s3 <| rM rfl s4 <| rw_c rfl (opR_call Tryd.func14 bd14 nm14 (args2 rfl rfl) (c_same va (subv vb 0 (la.length : Int)) la lq _ (Rd.ofRest hra hm27) (Rd.cast (Rd.cast (l' := (lb.drop (0 : Int).toNat).take (((la.length : Int) : Int).toNat - (0 : Int).toNat)) (Rd.sub (Rd.ofRest hrb hm27) oM sD sD) rfl) hlq) sD)) ?_
           rintro _ w29 ⟨rfl, _ew29⟩
           have hm29 := hm27.ext _ew29
           refine rw_q rfl (ev_bool_eql uT4 rfl rfl) <| rw_q rfl (ev_move (v := (bl (((closeP key nonce ls la) == (closeP key nonce ls lq)) == (la == lq)))) rfl) ?_
           have hd31 : (((closeP key nonce ls la) == (closeP key nonce ls lq)) == (la == lq)) = true := told_true (close_same oM)
           refine rw_gn (s := 90) rfl rfl hd31 rfl <| rw_gn (s := 90) rfl rfl hd31 rfl <| rw_gn (s := 90) rfl rfl hd31 rfl <| rw_gn (s := 90) rfl rfl hd31 rfl <| rw_q rfl (ev_pick_tk rfl hd31 rfl) <| rw_q rfl (ev_assign (v := (bl true)) rfl) ?_
           refine rw_nil (kThen_normal ?_)
           refine CW.abs (fun g => g 0 = (agg u8 key) ∧ g 1 = (agg u8 nonce) ∧ g 2 = vs ∧ g 3 = va ∧ g 4 = (subv vb 0 (la.length : Int)) ∧ g 5 = (ptr b5 0) ∧ g 6 = (ptr b6 0) ∧ g 10 = (bl true) ∧ g 11 = rxq13 ∧ g 12 = rxq16 ∧ g 15 = (bl false) ∧ g 30 = (bl (decide (300 < (ls.length : Int)))) ∧ g 57 = (bl (((closeP key nonce ls lq).length : Int) != ((closeP key nonce ls la).length : Int))) ∧ g 59 = (i64 (la.length : Int)) ∧ g 60 = (i64 (k : Int)) ∧ g 61 = (bl (decide ((k : Int) < (la.length : Int)))) ∧ True) ⟨s0, s1, s2, s3, s4, s5, s6, rfl, s11, s12, s15, s30, s57, s59, s60, rfl, trivial⟩ ?_
           rintro fr32 ⟨s0, s1, s2, s3, s4, s5, s6, s10, s11, s12, s15, s30, s57, s59, s60, s61, _⟩
           refine cw_ret <| fnPost_ret [(bl true)] ⟨s10, trivial⟩ ?_
           exact ⟨rfl, Mem.below w0 hm29⟩

end Go.Proofs.YtmiagmbgfhakgaaDoor

