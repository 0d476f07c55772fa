/- Contracts: the seal, first part. Conditions: none beyond those that each theorem states. -/
import Derived.Test.YtmiagmbgfhakgaaDoorKd3
import Derived.Test.YtmiagmbgfhakgaaDoorFwO
namespace Go.Proofs.YtmiagmbgfhakgaaDoor
set_option linter.unusedVariables false
set_option linter.unusedSimpArgs false
theorem manyK_ok {n : Int} (h0 : 0 ≤ n) (h1 : n ≤ 255) : manyK n = n.toNat := by unfold manyK badK; rw [if_neg (by simp; omega)]
theorem keysQ_ok {a b p : List (BitVec 8)} {n : Int} (h0 : 0 ≤ n) (h1 : n ≤ 255) : keysQ a b p n = chunksP n.toNat (expandP (extractP a b) p (32 * n.toNat)) := by unfold keysQ; rw [manyK_ok h0 h1]
theorem keysQ_len {a b p : List (BitVec 8)} {n : Int} (h0 : 0 ≤ n) (h1 : n ≤ 255) : ((keysQ a b p n).length : Int) = n := by rw [keysQ_ok h0 h1, chunksP_length]; omega
theorem chunk_len {m k : Nat} {L : List (BitVec 8)} (h : k < m) (hL : L.length = 32 * m) : ((chunksP m L).getD k []).length = 32 := by
  unfold chunksP
  simp [List.getD_eq_getElem?_getD, h]; omega
theorem told_ne {α : Type} [BEq α] [LawfulBEq α] {a b : α} (h : a = b) : (a != b) = false := by rw [h]; simp

/-- The two keys, the message, what is enciphered, and what is opened. -/
def keyT (key : List (BitVec 8)) : List (BitVec 8) := (keysQ [] key (bytesL ⟨#[115, 101, 97, 108]⟩) 2).getD 0 []
def keyM (key : List (BitVec 8)) : List (BitVec 8) := (keysQ [] key (bytesL ⟨#[115, 101, 97, 108]⟩) 2).getD 1 []
theorem keyT_len (key : List (BitVec 8)) : (keyT key).length = 32 := by
  unfold keyT; rw [keysQ_ok (by decide) (by decide)]; exact chunk_len (by decide) (by rw [expandP_length])
theorem keyM_len (key : List (BitVec 8)) : (keyM key).length = 32 := by
  unfold keyM; rw [keysQ_ok (by decide) (by decide)]; exact chunk_len (by decide) (by rw [expandP_length])
def len8 (n : Int) : List (BitVec 8) := [(BitVec.ofInt 64 n >>> 56).setWidth 8, (BitVec.ofInt 64 n >>> 48).setWidth 8, (BitVec.ofInt 64 n >>> 40).setWidth 8, (BitVec.ofInt 64 n >>> 32).setWidth 8,
  (BitVec.ofInt 64 n >>> 24).setWidth 8, (BitVec.ofInt 64 n >>> 16).setWidth 8, (BitVec.ofInt 64 n >>> 8).setWidth 8, (BitVec.ofInt 64 n >>> 0).setWidth 8]
@[simp] theorem len8_length (n : Int) : (len8 n).length = 8 := rfl
def msgP (nonce beside cipher : List (BitVec 8)) : List (BitVec 8) := nonce ++ len8 (beside.length : Int) ++ beside ++ cipher
@[simp] theorem msgP_length (nonce beside cipher : List (BitVec 8)) : (msgP nonce beside cipher).length = nonce.length + 8 + beside.length + cipher.length := by simp only [msgP, List.length_append, len8_length]
def tagP (key nonce beside cipher : List (BitVec 8)) : List (BitVec 8) := hmacP (keyM key) (msgP nonce beside cipher)
@[simp] theorem tagP_length (key nonce beside cipher : List (BitVec 8)) : (tagP key nonce beside cipher).length = 32 := hmacP_length _ _
def cipherP (key nonce plain : List (BitVec 8)) : List (BitVec 8) := turnP blockP (keyT key) 1#32 nonce plain
@[simp] theorem cipherP_length (key nonce plain : List (BitVec 8)) : (cipherP key nonce plain).length = plain.length := turnP_length _ _ _ _ _
theorem cipherR (key nonce plain : List (BitVec 8)) : turnP blockR (keyT key) 1#32 nonce plain = cipherP key nonce plain := by unfold cipherP; exact (turn_same _ _ _ _).symm
def closeP (key nonce beside plain : List (BitVec 8)) : List (BitVec 8) := cipherP key nonce plain ++ tagP key nonce beside (cipherP key nonce plain)
@[simp] theorem closeP_length (key nonce beside plain : List (BitVec 8)) : (closeP key nonce beside plain).length = plain.length + 32 := by simp [closeP]
/-- The row without its tag. -/
def frontP (b : List (BitVec 8)) : List (BitVec 8) := b.take (b.length - 32)
def rightP (key nonce beside b : List (BitVec 8)) : Bool := tagP key nonce beside (frontP b) == b.drop (b.length - 32)
def errO (key nonce beside b : List (BitVec 8)) : Int := if b.length < 32 then 3 else if rightP key nonce beside b then 0 else 10
def openQ (key nonce beside b : List (BitVec 8)) : List (BitVec 8) := if b.length < 32 then [] else if rightP key nonce beside b then cipherP key nonce (frontP b) else []
theorem front_sub {b : List (BitVec 8)} (h : ¬ (b.length : Int) - 32 < 0) : (b.drop (0 : Int).toNat).take (((b.length : Int) - 32).toNat - (0 : Int).toNat) = frontP b := by
  unfold frontP; rw [show (0 : Int).toNat = 0 from rfl, List.drop_zero]; congr 1; omega
theorem back_sub {b : List (BitVec 8)} (h : ¬ (b.length : Int) - 32 < 0) : (b.drop ((b.length : Int) - 32).toNat).take ((b.length : Int).toNat - ((b.length : Int) - 32).toNat) = b.drop (b.length - 32) := by
  rw [show ((b.length : Int) - 32).toNat = b.length - 32 by omega]; exact List.take_of_length_le (by simp)
/-- The bits in which two rows are unlike. -/
def unlikeP (a b : List (BitVec 8)) : Nat → BitVec 8
  | 0 => 0
  | k + 1 => unlikeP a b k ||| (a.getD k 0 ^^^ b.getD k 0)
theorem unlike_zero {a b : List (BitVec 8)} : ∀ k, unlikeP a b k = 0 → ∀ j, j < k → a.getD j 0 = b.getD j 0 := by
  intro k
  induction k with
  | zero => intro _ j hj; omega
  | succ k ih =>
    intro h j hj
    simp only [unlikeP] at h
    obtain ⟨h1, h2⟩ := BitVec.or_eq_zero_iff.1 h
    rcases Nat.lt_or_ge j k with h3 | h3
    · exact ih h1 j h3
    · have : j = k := by omega
      subst this; exact BitVec.xor_eq_zero_iff.1 h2
theorem unlike_same (a : List (BitVec 8)) : ∀ k, unlikeP a a k = 0 := by
  intro k
  induction k with
  | zero => rfl
  | succ k ih => simp [unlikeP, ih]
theorem unlike_told {a b : List (BitVec 8)} (h : (a.length : Int) = (b.length : Int)) : (unlikeP a b a.length == 0#8) = (a == b) := by
  rw [Bool.eq_iff_iff, beq_iff_eq, beq_iff_eq]
  constructor
  · intro h1
    refine List.ext_getElem oM fun i h2 h3 => ?_
    have := unlike_zero _ h1 i h2
    simpa [List.getD_eq_getElem?_getD, h2, h3] using this
  · rintro rfl; exact unlike_same _ _
attribute [local irreducible] hmacP tK outK expandP extractP keysQ expandQ errK errP turnP blockP blockR
theorem c_skeys (key : List (BitVec 8)) (w0 : World)  (hT : Tabs (blks w0)) (hk : key.length = 32) : CallsR Tryd.prog 26 #[(agg u8 key)] w0 (fun r w1 => r = (Value.tuple #[(agg u8 (keyT key)), (agg u8 (keyM key))]) ∧ Ext w0 w1) := by
 refine callsR_of_cw (args := [(agg u8 key)]) Tryd.func26 rfl Tryd.ntmps26 Tryd.results26 rfl ?_
 have hm0 : Mem w0 (restOf w0) [] := Mem.of_world w0
 have hkl := keysQ_len (a := []) (b := key) (p := bytesL ⟨#[115, 101, 97, 108]⟩) (n := 2) (by decide) (by decide)
 have hk0 : ((keysQ [] key (bytesL ⟨#[115, 101, 97, 108]⟩) 2).getD 0 []).length = 32 := keyT_len key
 have hk1 : ((keysQ [] key (bytesL ⟨#[115, 101, 97, 108]⟩) 2).getD 1 []).length = 32 := keyM_len key
 refine cw_seq (cw_region ?_)
 refine rw_c rfl (or_box_agg (f := u8) (l := key) hm0 rfl) ?_
 rintro _ w1 ⟨b1, rfl, _ew1, hm1⟩
 refine rw_c rfl (or_alloc_agg hm1 ti23) ?_
 rintro _ w2 ⟨b2, rfl, _ew2, hm2⟩
 refine rw_c rfl (or_alloc_agg hm2 ti23) ?_
 rintro _ w3 ⟨b3, rfl, _ew3, hm3⟩
 refine rw_nil (kThen_normal (cw_seq (cw_region ?_)))
 refine rw_q rfl (ev_slice_sla (i := 0) (j := 32) uT23 ti5 rfl (optI_none _ _) (optI_none _ _) oM sD sD) <| rw_c rfl (opR_call Tryd.func39 bd39 nm39 (args4 rfl rfl rfl rfl) (c_keys (Value.slice none 0 0) ([]) (sla b1 0 1 0 32 32) key (⟨#[115, 101, 97, 108]⟩) (2 : Int) _ (hT.mono fun b o e => (hm3).rest b o e) (Rd.nil _ _) sD (Rd.slaAll hm3.h2 sD) sD sD sD)) ?_
 rintro _ w4 ⟨vxq5, Hsq5, rfl, gvxq5, k_w4⟩
 have hm4 : Mem w4 (restOf w0) (Hsq5 ++ ([(b3, .cells (cl u8 (List.replicate 32 0)) 23 (0, 0)), (b2, .cells (cl u8 (List.replicate 32 0)) 23 (0, 0)), (b1, .cells (cl u8 key) 23 (0, 0))])) := Mem.new (H := [(b3, .cells (cl u8 (List.replicate 32 0)) 23 (0, 0)), (b2, .cells (cl u8 (List.replicate 32 0)) 23 (0, 0)), (b1, .cells (cl u8 key) 23 (0, 0))]) (H' := Hsq5) hm3 k_w4
 refine rw_q rfl (ev_move (v := (Value.tuple #[vxq5, (i64 (errK (2 : Int)))])) rfl) <| rw_q (v := vxq5) rfl (ev_extract rfl rfl) <| rw_q (v := (i64 (errK (2 : Int)))) rfl (ev_extract rfl rfl) <| rA rfl (v := vxq5) rfl <| rw_q rfl (ev_assign (v := (i64 (errK (2 : Int)))) rfl) ?_
 refine rw_nil (kThen_normal (cw_seq ?_))
 refine cw_drawE (by kernel_rfl) ?_
 have hm6 := (Mem.pick2 Hsq5 [_, _] [_] _ hm4)
 have hm7 := (Mem.pick2 [_] Hsq5 [_] _ hm6)
 have hm8 := (Mem.pick [_, _] Hsq5 _ hm7)
 have hm9 := (Mem.pick2 Hsq5 [_, _] [_] _ hm8)
 have hFM10 : Mem w4 (restOf w0) ([(b2, .cells (cl u8 (List.replicate 32 0)) 23 (0, 0))] ++ (Hsq5 ++ ([(b3, .cells (cl u8 (List.replicate 32 0)) 23 (0, 0)), (b1, .cells (cl u8 key) 23 (0, 0))]))) := hm9
 obtain ⟨RM10, hRM10⟩ : ∃ R2, R2 = Rest.add (restOf w0) (Hsq5 ++ ([(b3, .cells (cl u8 (List.replicate 32 0)) 23 (0, 0)), (b1, .cells (cl u8 key) 23 (0, 0))])) := ⟨_, rfl⟩
 have M100 : Mem w4 RM10 [(b2, .cells (cl u8 (List.replicate 32 0)) 23 (0, 0))] := by rw [hRM10]; exact Mem.give hFM10
 have hg11 : RdK RM10.blk (encA u8) 32 vxq5 (keysQ ([]) key (bytesL (⟨#[115, 101, 97, 108]⟩)) (2 : Int)) := gvxq5.rdIn (fun p hp => by rw [hRM10]; exact Mem.addOwn hFM10 (List.mem_append_left _ hp))
 have ho12 : RM10.blk b3 = some (.cells (cl u8 (List.replicate 32 0)) 23 (0, 0)) := by rw [hRM10]; exact Mem.addOwn hFM10 (List.mem_append_right _ (List.Mem.head _))
 have ho13 : RM10.blk b1 = some (.cells (cl u8 key) 23 (0, 0)) := by rw [hRM10]; exact Mem.addOwn hFM10 (List.mem_append_right _ (List.Mem.tail _ (List.Mem.head _)))
 have hT14 : Tabs RM10.blk := by rw [hRM10]; exact Tabs.mono hT fun b o e => Mem.addRest hFM10 e
 refine re_planM M100 [(0, false), (1, false), (2, false), (3, false), (4, false), (5, false), (6, true)] 7 rfl (by kernel_rfl) <| dk_q rfl rfl (fun w _H _hx => ev_move (v := vxq5) rfl) <| dk_q rfl rfl (fun w _H _hx => ev_indexAddr_rk (i := 0) (RdK.ofRest hg11 _hx) uT57 ti23 rfl rfl oM sD) <| dk_q (v := (agg u8 ((keysQ ([]) key (bytesL (⟨#[115, 101, 97, 108]⟩)) (2 : Int)).getD 0 []))) rfl rfl (fun w _H _hx => ev_load_rka (i := (0 : Int)) (RdK.ofRest hg11 _hx) sD uT23 ti23 rfl rfl) <| dk_q rfl rfl (fun w _H _hx => ev_move (v := vxq5) rfl) <| dk_q rfl rfl (fun w _H _hx => ev_indexAddr_rk (i := 1) (RdK.ofRest hg11 _hx) uT57 ti23 rfl rfl oM sD) ?_
 refine dk_q (v := (agg u8 ((keysQ ([]) key (bytesL (⟨#[115, 101, 97, 108]⟩)) (2 : Int)).getD 1 []))) rfl rfl (fun w _H _hx => ev_load_rka (i := (1 : Int)) (RdK.ofRest hg11 _hx) sD uT23 ti23 rfl rfl) ?_
 refine dk_n rfl (fun w15 _ew15 => ?_)
 have hm15 := M100.ext _ew15
 refine OpR.mono (or_store_agg (f := u8) (l := (keysQ ([]) key (bytesL (⟨#[115, 101, 97, 108]⟩)) (2 : Int)).getD 0 []) u8_one ti23 rfl rfl sD hm15.h0 sZ rfl) ?_
 rintro _ w16 uq16
 have hm16 := hm15.upd0 uq16
 refine ⟨⟨_, hm16⟩, ?_⟩
 refine dw_nil (fun w17 _ew17 => ?_)
 have hm17 := hm16.ext _ew17
 have hX18 := hm17
 rw [hRM10] at hX18
 have hm19 : Mem w17 (restOf w0) ([(b2, .cells (cl u8 ((keysQ ([]) key (bytesL (⟨#[115, 101, 97, 108]⟩)) (2 : Int)).getD 0 [])) 23 (0, 0))] ++ (Hsq5 ++ ([(b3, .cells (cl u8 (List.replicate 32 0)) 23 (0, 0)), (b1, .cells (cl u8 key) 23 (0, 0))]))) := (by
   have hT := Mem.back hFM10 hX18
   simp only [List.append_assoc, List.cons_append, List.nil_append, List.append_nil] at hT ⊢
   exact hT)
 refine rw_n (or_store_agg (f := u8) (l := (keysQ ([]) key (bytesL (⟨#[115, 101, 97, 108]⟩)) (2 : Int)).getD 1 []) u8_one ti23 rfl rfl sD ((Mem.pick2 [_] Hsq5 [_] _ hm19)).h0 sZ rfl) ?_
 rintro _ w20 uq20
 have hm20 : Mem w20 (restOf w0) ([(b3, .cells (cl u8 ((keysQ ([]) key (bytesL (⟨#[115, 101, 97, 108]⟩)) (2 : Int)).getD 1 [])) 23 (0, 0)), (b2, .cells (cl u8 ((keysQ ([]) key (bytesL (⟨#[115, 101, 97, 108]⟩)) (2 : Int)).getD 0 [])) 23 (0, 0))] ++ (Hsq5 ++ ([(b1, .cells (cl u8 key) 23 (0, 0))]))) := Mem.upd0 (Mem.pick2 [_] Hsq5 [_] _ hm19) uq20
 refine rw_nil (kThen_normal ?_)
 refine CW.abs (fun g => g 0 = (agg u8 key) ∧ g 1 = (ptr b1 0) ∧ g 2 = (ptr b2 0) ∧ g 3 = (ptr b3 0) ∧ g 4 = vxq5 ∧ True) ⟨rfl, rfl, rfl, rfl, rfl, trivial⟩ ?_
 rintro fr21 ⟨s0, s1, s2, s3, s4, _⟩
 refine cw_ret <| fnPost_ret [(agg u8 ((keysQ ([]) key (bytesL (⟨#[115, 101, 97, 108]⟩)) (2 : Int)).getD 0 [])), (agg u8 ((keysQ ([]) key (bytesL (⟨#[115, 101, 97, 108]⟩)) (2 : Int)).getD 1 []))] ⟨⟨_, s2, loadVar_run uT23 rfl ti23 hm20.h1 sZ⟩, ⟨_, s3, loadVar_run uT23 rfl ti23 hm20.h0 sZ⟩, trivial⟩ ?_
 exact ⟨rfl, hm20.toExt⟩

set_option maxHeartbeats 1000000 in
theorem c_message (nonce : List (BitVec 8)) (va : Value) (la : List (BitVec 8)) (vc : Value) (lc : List (BitVec 8)) (w0 : World)  (hn : nonce.length = 12) (hra : Rd (blks w0) u8 va la) (hla : la.length ≤ 1000000) (hrc : Rd (blks w0) u8 vc lc) (hlc : lc.length ≤ 1000000) : CallsR Tryd.prog 16 #[(agg u8 nonce), va, vc] w0 (fun r w1 => ∃ Hs, Grow u8 5 r (msgP nonce la lc) Hs ∧ Mem w1 (restOf w0) Hs) := by
 refine callsR_of_cw (args := [(agg u8 nonce), va, vc]) Tryd.func16 rfl Tryd.ntmps16 Tryd.results16 rfl ?_
 have hm0 : Mem w0 (restOf w0) [] := Mem.of_world w0
 refine cw_seq (cw_region ?_)
 refine rw_c rfl (or_box_agg (f := u8) (l := nonce) hm0 rfl) ?_
 rintro _ w1 ⟨b3, rfl, _ew1, hm1⟩
 refine rw_q rfl (ev_assign (v := (Value.slice none 0 0)) rfl) ?_
 refine rw_nil (kThen_normal (cw_seq (cw_region ?_)))
 refine rw_q rfl (ev_slice_sla (i := 0) (j := 12) uT25 ti5 rfl (optI_none _ _) (optI_none _ _) oM sD sD) <| rw_c rfl (opR_call Tryd.func32 bd32 nm32 (args1 rfl) (c_clone (sla b3 0 1 0 12 12) nonce _ (Rd.slaAll hm1.h0 sD) sD)) ?_
 rintro rq3 w2 ⟨Hsq3, grq3, k_w2⟩
 have hm2 : Mem w2 (restOf w0) (Hsq3 ++ ([(b3, .cells (cl u8 nonce) 25 (0, 0))])) := Mem.new (H := [(b3, .cells (cl u8 nonce) 25 (0, 0))]) (H' := Hsq3) hm1 k_w2
 refine rA rfl (v := rq3) rfl ?_
 refine rw_nil (kThen_normal (cw_seq (cw_seq (cw_region ?_))))
 refine rw_q rfl (ev_assign (v := (i64 7)) rfl) ?_
 refine rw_nil (kThen_normal (cw_block ?_))
 refine cw_rounds 9 ?_
 refine cr_succ (cw_seq (cw_seq (cw_region ?_)))
 refine rw_q rfl (ev_move (v := (i64 7)) rfl) <| rw_q rfl (ev_i64_geq (a := 7) (b := 0) rfl rfl) ?_
 refine rw_nil (kThen_normal ?_)
 refine cw_cond_t rfl (by decide) ?_
 refine cw_skip (kThen_normal (cw_seq (cw_block (cw_region ?_))))
 refine rM rfl (v := rq3) rfl <| rM rfl (v := va) rfl <| rw_q (v := (i64 (la.length : Int))) rfl (ev_len_rd (Rd.ofRest hra hm2) uT26 rfl) <| rw_q rfl (ev_conv_i64_u64 ⟨_, uT3⟩ uT61 rfl) <| rw_q rfl (ev_move (v := (i64 7)) rfl) <| rw_q (v := (i64 56)) rfl (ev_i64_mul (a := 8) (b := 7) rfl rfl oM oM) ?_
 refine rw_q rfl (ev_u64_shr (b := 56) rfl rfl oM) <| rw_q rfl (ev_conv_u64_u8 ⟨_, uT61⟩ uT5 rfl) <| rw_c rfl (or_buildSlice_cl u8 [((BitVec.ofInt 64 (la.length : Int)) >>> 56).setWidth 8] u8_one hm2 uT26 ti5 rfl rfl rfl) ?_
 rintro _ w4 ⟨b23, rfl, _ew4, hm4⟩
 refine rw_c rfl (or_append (f := u8) (Hs := Hsq3) (H := [(b23, .cells (cl u8 ([((BitVec.ofInt 64 (la.length : Int)) >>> 56).setWidth 8])) 5 (0, 0)), (b3, .cells (cl u8 nonce) 25 (0, 0))]) (Mem.pick [_] Hsq3 _ hm4) grq3 rfl rfl (Rd.mkA hm4.h0) uT26 uT26 ti5 rfl u8_one sD sD) ?_
 rintro sv5 w5 ⟨Hs5, hm5, g5⟩
 replace g5 : Grow u8 5 sv5 (nonce ++ ([((BitVec.ofInt 64 (la.length : Int)) >>> 56).setWidth 8])) Hs5 := g5
 refine rA rfl (v := sv5) rfl ?_
 refine rw_nil (kBlk_normal ?_)
 have hm6 := Mem.drop ([(b23, .cells (cl u8 ([((BitVec.ofInt 64 (la.length : Int)) >>> 56).setWidth 8])) 5 (0, 0))]) _ (Mem.pick Hs5 [_] _ hm5)
 refine CW.abs (fun g => g 0 = (agg u8 nonce) ∧ g 1 = va ∧ g 2 = vc ∧ g 3 = (ptr b3 0) ∧ g 6 = (Value.slice none 0 0) ∧ g 7 = sv5 ∧ g 8 = (i64 7) ∧ g 12 = (bl true) ∧ True) ⟨rfl, rfl, rfl, rfl, rfl, rfl, rfl, rfl, trivial⟩ ?_
 rintro fr7 ⟨s0, s1, s2, s3, s6, s7, s8, s12, _⟩
 refine cw_region <| rM rfl s8 <| rw_q (v := (i64 6)) rfl (ev_i64_sub (a := 7) (b := 1) rfl rfl oM oM) <| rw_q rfl (ev_assign (v := (i64 6)) rfl) ?_
 refine rw_nil (kThen_normal (cr_succ (cw_seq (cw_seq (cw_region ?_)))))
 refine rw_q rfl (ev_move (v := (i64 6)) rfl) <| rw_q rfl (ev_i64_geq (a := 6) (b := 0) rfl rfl) ?_
 refine rw_nil (kThen_normal ?_)
 refine cw_cond_t rfl (by decide) ?_
 refine cw_skip (kThen_normal (cw_seq (cw_block (cw_region ?_))))
 refine rM rfl s7 <| rM rfl s1 <| rw_q (v := (i64 (la.length : Int))) rfl (ev_len_rd (Rd.ofRest hra hm6) uT26 rfl) <| rw_q rfl (ev_conv_i64_u64 ⟨_, uT3⟩ uT61 rfl) <| rw_q rfl (ev_move (v := (i64 6)) rfl) <| rw_q (v := (i64 48)) rfl (ev_i64_mul (a := 8) (b := 6) rfl rfl oM oM) ?_
 refine rw_q rfl (ev_u64_shr (b := 48) rfl rfl oM) <| rw_q rfl (ev_conv_u64_u8 ⟨_, uT61⟩ uT5 rfl) <| rw_c rfl (or_buildSlice_cl u8 [((BitVec.ofInt 64 (la.length : Int)) >>> 48).setWidth 8] u8_one hm6 uT26 ti5 rfl rfl rfl) ?_
 rintro _ w8 ⟨b23_1, rfl, _ew8, hm8⟩
 refine rw_c rfl (or_append (f := u8) (Hs := Hs5) (H := [(b23_1, .cells (cl u8 ([((BitVec.ofInt 64 (la.length : Int)) >>> 48).setWidth 8])) 5 (0, 0)), (b3, .cells (cl u8 nonce) 25 (0, 0))]) (Mem.pick [_] Hs5 _ hm8) g5 rfl rfl (Rd.mkA hm8.h0) uT26 uT26 ti5 rfl u8_one sD sD) ?_
 rintro sv9 w9 ⟨Hs9, hm9, g9⟩
 replace g9 : Grow u8 5 sv9 ((nonce ++ ([((BitVec.ofInt 64 (la.length : Int)) >>> 56).setWidth 8])) ++ ([((BitVec.ofInt 64 (la.length : Int)) >>> 48).setWidth 8])) Hs9 := g9
 refine rA rfl (v := sv9) rfl ?_
 refine rw_nil (kBlk_normal ?_)
 have hm10 := Mem.drop ([(b23_1, .cells (cl u8 ([((BitVec.ofInt 64 (la.length : Int)) >>> 48).setWidth 8])) 5 (0, 0))]) _ (Mem.pick Hs9 [_] _ hm9)
 refine CW.abs (fun g => g 0 = (agg u8 nonce) ∧ g 1 = va ∧ g 2 = vc ∧ g 3 = (ptr b3 0) ∧ g 6 = (Value.slice none 0 0) ∧ g 7 = sv9 ∧ g 8 = (i64 6) ∧ g 12 = (bl true) ∧ True) ⟨s0, s1, s2, s3, s6, rfl, rfl, rfl, trivial⟩ ?_
 rintro fr11 ⟨s0, s1, s2, s3, s6, s7, s8, s12, _⟩
 refine cw_region <| rM rfl s8 <| rw_q (v := (i64 5)) rfl (ev_i64_sub (a := 6) (b := 1) rfl rfl oM oM) <| rw_q rfl (ev_assign (v := (i64 5)) rfl) ?_
 refine rw_nil (kThen_normal (cr_succ (cw_seq (cw_seq (cw_region ?_)))))
 refine rw_q rfl (ev_move (v := (i64 5)) rfl) <| rw_q rfl (ev_i64_geq (a := 5) (b := 0) rfl rfl) ?_
 refine rw_nil (kThen_normal ?_)
 refine cw_cond_t rfl (by decide) ?_
 refine cw_skip (kThen_normal (cw_seq (cw_block (cw_region ?_))))
 refine rM rfl s7 <| rM rfl s1 <| rw_q (v := (i64 (la.length : Int))) rfl (ev_len_rd (Rd.ofRest hra hm10) uT26 rfl) <| rw_q rfl (ev_conv_i64_u64 ⟨_, uT3⟩ uT61 rfl) <| rw_q rfl (ev_move (v := (i64 5)) rfl) <| rw_q (v := (i64 40)) rfl (ev_i64_mul (a := 8) (b := 5) rfl rfl oM oM) ?_
 refine rw_q rfl (ev_u64_shr (b := 40) rfl rfl oM) <| rw_q rfl (ev_conv_u64_u8 ⟨_, uT61⟩ uT5 rfl) <| rw_c rfl (or_buildSlice_cl u8 [((BitVec.ofInt 64 (la.length : Int)) >>> 40).setWidth 8] u8_one hm10 uT26 ti5 rfl rfl rfl) ?_
 rintro _ w12 ⟨b23_2, rfl, _ew12, hm12⟩
 refine rw_c rfl (or_append (f := u8) (Hs := Hs9) (H := [(b23_2, .cells (cl u8 ([((BitVec.ofInt 64 (la.length : Int)) >>> 40).setWidth 8])) 5 (0, 0)), (b3, .cells (cl u8 nonce) 25 (0, 0))]) (Mem.pick [_] Hs9 _ hm12) g9 rfl rfl (Rd.mkA hm12.h0) uT26 uT26 ti5 rfl u8_one sD sD) ?_
 rintro sv13 w13 ⟨Hs13, hm13, g13⟩
 replace g13 : Grow u8 5 sv13 (((nonce ++ ([((BitVec.ofInt 64 (la.length : Int)) >>> 56).setWidth 8])) ++ ([((BitVec.ofInt 64 (la.length : Int)) >>> 48).setWidth 8])) ++ ([((BitVec.ofInt 64 (la.length : Int)) >>> 40).setWidth 8])) Hs13 := g13
 refine rA rfl (v := sv13) rfl ?_
 refine rw_nil (kBlk_normal ?_)
 have hm14 := Mem.drop ([(b23_2, .cells (cl u8 ([((BitVec.ofInt 64 (la.length : Int)) >>> 40).setWidth 8])) 5 (0, 0))]) _ (Mem.pick Hs13 [_] _ hm13)
 refine CW.abs (fun g => g 0 = (agg u8 nonce) ∧ g 1 = va ∧ g 2 = vc ∧ g 3 = (ptr b3 0) ∧ g 6 = (Value.slice none 0 0) ∧ g 7 = sv13 ∧ g 8 = (i64 5) ∧ g 12 = (bl true) ∧ True) ⟨s0, s1, s2, s3, s6, rfl, rfl, rfl, trivial⟩ ?_
 rintro fr15 ⟨s0, s1, s2, s3, s6, s7, s8, s12, _⟩
 refine cw_region <| rM rfl s8 <| rw_q (v := (i64 4)) rfl (ev_i64_sub (a := 5) (b := 1) rfl rfl oM oM) <| rw_q rfl (ev_assign (v := (i64 4)) rfl) ?_
 refine rw_nil (kThen_normal (cr_succ (cw_seq (cw_seq (cw_region ?_)))))
 refine rw_q rfl (ev_move (v := (i64 4)) rfl) <| rw_q rfl (ev_i64_geq (a := 4) (b := 0) rfl rfl) ?_
 refine rw_nil (kThen_normal ?_)
 refine cw_cond_t rfl (by decide) ?_
 refine cw_skip (kThen_normal (cw_seq (cw_block (cw_region ?_))))
 refine rM rfl s7 <| rM rfl s1 <| rw_q (v := (i64 (la.length : Int))) rfl (ev_len_rd (Rd.ofRest hra hm14) uT26 rfl) <| rw_q rfl (ev_conv_i64_u64 ⟨_, uT3⟩ uT61 rfl) <| rw_q rfl (ev_move (v := (i64 4)) rfl) <| rw_q (v := (i64 32)) rfl (ev_i64_mul (a := 8) (b := 4) rfl rfl oM oM) ?_
 refine rw_q rfl (ev_u64_shr (b := 32) rfl rfl oM) <| rw_q rfl (ev_conv_u64_u8 ⟨_, uT61⟩ uT5 rfl) <| rw_c rfl (or_buildSlice_cl u8 [((BitVec.ofInt 64 (la.length : Int)) >>> 32).setWidth 8] u8_one hm14 uT26 ti5 rfl rfl rfl) ?_
 rintro _ w16 ⟨b23_3, rfl, _ew16, hm16⟩
 refine rw_c rfl (or_append (f := u8) (Hs := Hs13) (H := [(b23_3, .cells (cl u8 ([((BitVec.ofInt 64 (la.length : Int)) >>> 32).setWidth 8])) 5 (0, 0)), (b3, .cells (cl u8 nonce) 25 (0, 0))]) (Mem.pick [_] Hs13 _ hm16) g13 rfl rfl (Rd.mkA hm16.h0) uT26 uT26 ti5 rfl u8_one sD sD) ?_
 rintro sv17 w17 ⟨Hs17, hm17, g17⟩
 replace g17 : Grow u8 5 sv17 ((((nonce ++ ([((BitVec.ofInt 64 (la.length : Int)) >>> 56).setWidth 8])) ++ ([((BitVec.ofInt 64 (la.length : Int)) >>> 48).setWidth 8])) ++ ([((BitVec.ofInt 64 (la.length : Int)) >>> 40).setWidth 8])) ++ ([((BitVec.ofInt 64 (la.length : Int)) >>> 32).setWidth 8])) Hs17 := g17
 refine rA rfl (v := sv17) rfl ?_
 refine rw_nil (kBlk_normal ?_)
 have hm18 := Mem.drop ([(b23_3, .cells (cl u8 ([((BitVec.ofInt 64 (la.length : Int)) >>> 32).setWidth 8])) 5 (0, 0))]) _ (Mem.pick Hs17 [_] _ hm17)
 refine CW.abs (fun g => g 0 = (agg u8 nonce) ∧ g 1 = va ∧ g 2 = vc ∧ g 3 = (ptr b3 0) ∧ g 6 = (Value.slice none 0 0) ∧ g 7 = sv17 ∧ g 8 = (i64 4) ∧ g 12 = (bl true) ∧ True) ⟨s0, s1, s2, s3, s6, rfl, rfl, rfl, trivial⟩ ?_
 rintro fr19 ⟨s0, s1, s2, s3, s6, s7, s8, s12, _⟩
 refine cw_region <| rM rfl s8 <| rw_q (v := (i64 3)) rfl (ev_i64_sub (a := 4) (b := 1) rfl rfl oM oM) <| rw_q rfl (ev_assign (v := (i64 3)) rfl) ?_
 refine rw_nil (kThen_normal (cr_succ (cw_seq (cw_seq (cw_region ?_)))))
 refine rw_q rfl (ev_move (v := (i64 3)) rfl) <| rw_q rfl (ev_i64_geq (a := 3) (b := 0) rfl rfl) ?_
 refine rw_nil (kThen_normal ?_)
 refine cw_cond_t rfl (by decide) ?_
 refine cw_skip (kThen_normal (cw_seq (cw_block (cw_region ?_))))
 refine rM rfl s7 <| rM rfl s1 <| rw_q (v := (i64 (la.length : Int))) rfl (ev_len_rd (Rd.ofRest hra hm18) uT26 rfl) <| rw_q rfl (ev_conv_i64_u64 ⟨_, uT3⟩ uT61 rfl) <| rw_q rfl (ev_move (v := (i64 3)) rfl) <| rw_q (v := (i64 24)) rfl (ev_i64_mul (a := 8) (b := 3) rfl rfl oM oM) ?_
 refine rw_q rfl (ev_u64_shr (b := 24) rfl rfl oM) <| rw_q rfl (ev_conv_u64_u8 ⟨_, uT61⟩ uT5 rfl) <| rw_c rfl (or_buildSlice_cl u8 [((BitVec.ofInt 64 (la.length : Int)) >>> 24).setWidth 8] u8_one hm18 uT26 ti5 rfl rfl rfl) ?_
 rintro _ w20 ⟨b23_4, rfl, _ew20, hm20⟩
 refine rw_c rfl (or_append (f := u8) (Hs := Hs17) (H := [(b23_4, .cells (cl u8 ([((BitVec.ofInt 64 (la.length : Int)) >>> 24).setWidth 8])) 5 (0, 0)), (b3, .cells (cl u8 nonce) 25 (0, 0))]) (Mem.pick [_] Hs17 _ hm20) g17 rfl rfl (Rd.mkA hm20.h0) uT26 uT26 ti5 rfl u8_one sD sD) ?_
 rintro sv21 w21 ⟨Hs21, hm21, g21⟩
 replace g21 : Grow u8 5 sv21 (((((nonce ++ ([((BitVec.ofInt 64 (la.length : Int)) >>> 56).setWidth 8])) ++ ([((BitVec.ofInt 64 (la.length : Int)) >>> 48).setWidth 8])) ++ ([((BitVec.ofInt 64 (la.length : Int)) >>> 40).setWidth 8])) ++ ([((BitVec.ofInt 64 (la.length : Int)) >>> 32).setWidth 8])) ++ ([((BitVec.ofInt 64 (la.length : Int)) >>> 24).setWidth 8])) Hs21 := g21
 refine rA rfl (v := sv21) rfl ?_
 refine rw_nil (kBlk_normal ?_)
 have hm22 := Mem.drop ([(b23_4, .cells (cl u8 ([((BitVec.ofInt 64 (la.length : Int)) >>> 24).setWidth 8])) 5 (0, 0))]) _ (Mem.pick Hs21 [_] _ hm21)
 refine CW.abs (fun g => g 0 = (agg u8 nonce) ∧ g 1 = va ∧ g 2 = vc ∧ g 3 = (ptr b3 0) ∧ g 6 = (Value.slice none 0 0) ∧ g 7 = sv21 ∧ g 8 = (i64 3) ∧ g 12 = (bl true) ∧ True) ⟨s0, s1, s2, s3, s6, rfl, rfl, rfl, trivial⟩ ?_
 rintro fr23 ⟨s0, s1, s2, s3, s6, s7, s8, s12, _⟩
 refine cw_region <| rM rfl s8 <| rw_q (v := (i64 2)) rfl (ev_i64_sub (a := 3) (b := 1) rfl rfl oM oM) <| rw_q rfl (ev_assign (v := (i64 2)) rfl) ?_
 refine rw_nil (kThen_normal (cr_succ (cw_seq (cw_seq (cw_region ?_)))))
 refine rw_q rfl (ev_move (v := (i64 2)) rfl) <| rw_q rfl (ev_i64_geq (a := 2) (b := 0) rfl rfl) ?_
 refine rw_nil (kThen_normal ?_)
 refine cw_cond_t rfl (by decide) ?_
 refine cw_skip (kThen_normal (cw_seq (cw_block (cw_region ?_))))
 refine rM rfl s7 <| rM rfl s1 <| rw_q (v := (i64 (la.length : Int))) rfl (ev_len_rd (Rd.ofRest hra hm22) uT26 rfl) <| rw_q rfl (ev_conv_i64_u64 ⟨_, uT3⟩ uT61 rfl) <| rw_q rfl (ev_move (v := (i64 2)) rfl) <| rw_q (v := (i64 16)) rfl (ev_i64_mul (a := 8) (b := 2) rfl rfl oM oM) ?_
 refine rw_q rfl (ev_u64_shr (b := 16) rfl rfl oM) <| rw_q rfl (ev_conv_u64_u8 ⟨_, uT61⟩ uT5 rfl) <| rw_c rfl (or_buildSlice_cl u8 [((BitVec.ofInt 64 (la.length : Int)) >>> 16).setWidth 8] u8_one hm22 uT26 ti5 rfl rfl rfl) ?_
 rintro _ w24 ⟨b23_5, rfl, _ew24, hm24⟩
 refine rw_c rfl (or_append (f := u8) (Hs := Hs21) (H := [(b23_5, .cells (cl u8 ([((BitVec.ofInt 64 (la.length : Int)) >>> 16).setWidth 8])) 5 (0, 0)), (b3, .cells (cl u8 nonce) 25 (0, 0))]) (Mem.pick [_] Hs21 _ hm24) g21 rfl rfl (Rd.mkA hm24.h0) uT26 uT26 ti5 rfl u8_one sD sD) ?_
 rintro sv25 w25 ⟨Hs25, hm25, g25⟩
 replace g25 : Grow u8 5 sv25 ((((((nonce ++ ([((BitVec.ofInt 64 (la.length : Int)) >>> 56).setWidth 8])) ++ ([((BitVec.ofInt 64 (la.length : Int)) >>> 48).setWidth 8])) ++ ([((BitVec.ofInt 64 (la.length : Int)) >>> 40).setWidth 8])) ++ ([((BitVec.ofInt 64 (la.length : Int)) >>> 32).setWidth 8])) ++ ([((BitVec.ofInt 64 (la.length : Int)) >>> 24).setWidth 8])) ++ ([((BitVec.ofInt 64 (la.length : Int)) >>> 16).setWidth 8])) Hs25 := g25
 refine rA rfl (v := sv25) rfl ?_
 refine rw_nil (kBlk_normal ?_)
 have hm26 := Mem.drop ([(b23_5, .cells (cl u8 ([((BitVec.ofInt 64 (la.length : Int)) >>> 16).setWidth 8])) 5 (0, 0))]) _ (Mem.pick Hs25 [_] _ hm25)
 refine CW.abs (fun g => g 0 = (agg u8 nonce) ∧ g 1 = va ∧ g 2 = vc ∧ g 3 = (ptr b3 0) ∧ g 6 = (Value.slice none 0 0) ∧ g 7 = sv25 ∧ g 8 = (i64 2) ∧ g 12 = (bl true) ∧ True) ⟨s0, s1, s2, s3, s6, rfl, rfl, rfl, trivial⟩ ?_
 rintro fr27 ⟨s0, s1, s2, s3, s6, s7, s8, s12, _⟩
 refine cw_region <| rM rfl s8 <| rw_q (v := (i64 1)) rfl (ev_i64_sub (a := 2) (b := 1) rfl rfl oM oM) <| rw_q rfl (ev_assign (v := (i64 1)) rfl) ?_
 refine rw_nil (kThen_normal (cr_succ (cw_seq (cw_seq (cw_region ?_)))))
 refine rw_q rfl (ev_move (v := (i64 1)) rfl) <| rw_q rfl (ev_i64_geq (a := 1) (b := 0) rfl rfl) ?_
 refine rw_nil (kThen_normal ?_)
 refine cw_cond_t rfl (by decide) ?_
 refine cw_skip (kThen_normal (cw_seq (cw_block (cw_region ?_))))
 refine rM rfl s7 <| rM rfl s1 <| rw_q (v := (i64 (la.length : Int))) rfl (ev_len_rd (Rd.ofRest hra hm26) uT26 rfl) <| rw_q rfl (ev_conv_i64_u64 ⟨_, uT3⟩ uT61 rfl) <| rw_q rfl (ev_move (v := (i64 1)) rfl) <| rw_q (v := (i64 8)) rfl (ev_i64_mul (a := 8) (b := 1) rfl rfl oM oM) ?_
 refine rw_q rfl (ev_u64_shr (b := 8) rfl rfl oM) <| rw_q rfl (ev_conv_u64_u8 ⟨_, uT61⟩ uT5 rfl) <| rw_c rfl (or_buildSlice_cl u8 [((BitVec.ofInt 64 (la.length : Int)) >>> 8).setWidth 8] u8_one hm26 uT26 ti5 rfl rfl rfl) ?_
 rintro _ w28 ⟨b23_6, rfl, _ew28, hm28⟩
 refine rw_c rfl (or_append (f := u8) (Hs := Hs25) (H := [(b23_6, .cells (cl u8 ([((BitVec.ofInt 64 (la.length : Int)) >>> 8).setWidth 8])) 5 (0, 0)), (b3, .cells (cl u8 nonce) 25 (0, 0))]) (Mem.pick [_] Hs25 _ hm28) g25 rfl rfl (Rd.mkA hm28.h0) uT26 uT26 ti5 rfl u8_one sD sD) ?_
 rintro sv29 w29 ⟨Hs29, hm29, g29⟩
 replace g29 : Grow u8 5 sv29 (((((((nonce ++ ([((BitVec.ofInt 64 (la.length : Int)) >>> 56).setWidth 8])) ++ ([((BitVec.ofInt 64 (la.length : Int)) >>> 48).setWidth 8])) ++ ([((BitVec.ofInt 64 (la.length : Int)) >>> 40).setWidth 8])) ++ ([((BitVec.ofInt 64 (la.length : Int)) >>> 32).setWidth 8])) ++ ([((BitVec.ofInt 64 (la.length : Int)) >>> 24).setWidth 8])) ++ ([((BitVec.ofInt 64 (la.length : Int)) >>> 16).setWidth 8])) ++ ([((BitVec.ofInt 64 (la.length : Int)) >>> 8).setWidth 8])) Hs29 := g29
 refine rA rfl (v := sv29) rfl ?_
 refine rw_nil (kBlk_normal ?_)
 have hm30 := Mem.drop ([(b23_6, .cells (cl u8 ([((BitVec.ofInt 64 (la.length : Int)) >>> 8).setWidth 8])) 5 (0, 0))]) _ (Mem.pick Hs29 [_] _ hm29)
 refine CW.abs (fun g => g 0 = (agg u8 nonce) ∧ g 1 = va ∧ g 2 = vc ∧ g 3 = (ptr b3 0) ∧ g 6 = (Value.slice none 0 0) ∧ g 7 = sv29 ∧ g 8 = (i64 1) ∧ g 12 = (bl true) ∧ True) ⟨s0, s1, s2, s3, s6, rfl, rfl, rfl, trivial⟩ ?_
 rintro fr31 ⟨s0, s1, s2, s3, s6, s7, s8, s12, _⟩
 refine cw_region <| rM rfl s8 <| rw_q (v := (i64 0)) rfl (ev_i64_sub (a := 1) (b := 1) rfl rfl oM oM) <| rw_q rfl (ev_assign (v := (i64 0)) rfl) ?_
 refine rw_nil (kThen_normal (cr_succ (cw_seq (cw_seq (cw_region ?_)))))
 refine rw_q rfl (ev_move (v := (i64 0)) rfl) <| rw_q rfl (ev_i64_geq (a := 0) (b := 0) rfl rfl) ?_
 refine rw_nil (kThen_normal ?_)
 refine cw_cond_t rfl (by decide) ?_
 refine cw_skip (kThen_normal (cw_seq (cw_block (cw_region ?_))))
 refine rM rfl s7 <| rM rfl s1 <| rw_q (v := (i64 (la.length : Int))) rfl (ev_len_rd (Rd.ofRest hra hm30) uT26 rfl) <| rw_q rfl (ev_conv_i64_u64 ⟨_, uT3⟩ uT61 rfl) <| rw_q rfl (ev_move (v := (i64 0)) rfl) <| rw_q (v := (i64 0)) rfl (ev_i64_mul (a := 8) (b := 0) rfl rfl oM oM) ?_
 refine rw_q rfl (ev_u64_shr (b := 0) rfl rfl oM) <| rw_q rfl (ev_conv_u64_u8 ⟨_, uT61⟩ uT5 rfl) <| rw_c rfl (or_buildSlice_cl u8 [((BitVec.ofInt 64 (la.length : Int)) >>> 0).setWidth 8] u8_one hm30 uT26 ti5 rfl rfl rfl) ?_
 rintro _ w32 ⟨b23_7, rfl, _ew32, hm32⟩
 refine rw_c rfl (or_append (f := u8) (Hs := Hs29) (H := [(b23_7, .cells (cl u8 ([((BitVec.ofInt 64 (la.length : Int)) >>> 0).setWidth 8])) 5 (0, 0)), (b3, .cells (cl u8 nonce) 25 (0, 0))]) (Mem.pick [_] Hs29 _ hm32) g29 rfl rfl (Rd.mkA hm32.h0) uT26 uT26 ti5 rfl u8_one sD sD) ?_
 rintro sv33 w33 ⟨Hs33, hm33, g33⟩
 replace g33 : Grow u8 5 sv33 ((((((((nonce ++ ([((BitVec.ofInt 64 (la.length : Int)) >>> 56).setWidth 8])) ++ ([((BitVec.ofInt 64 (la.length : Int)) >>> 48).setWidth 8])) ++ ([((BitVec.ofInt 64 (la.length : Int)) >>> 40).setWidth 8])) ++ ([((BitVec.ofInt 64 (la.length : Int)) >>> 32).setWidth 8])) ++ ([((BitVec.ofInt 64 (la.length : Int)) >>> 24).setWidth 8])) ++ ([((BitVec.ofInt 64 (la.length : Int)) >>> 16).setWidth 8])) ++ ([((BitVec.ofInt 64 (la.length : Int)) >>> 8).setWidth 8])) ++ ([((BitVec.ofInt 64 (la.length : Int)) >>> 0).setWidth 8])) Hs33 := g33
 refine rA rfl (v := sv33) rfl ?_
 refine rw_nil (kBlk_normal ?_)
 have hm34 := Mem.drop ([(b23_7, .cells (cl u8 ([((BitVec.ofInt 64 (la.length : Int)) >>> 0).setWidth 8])) 5 (0, 0))]) _ (Mem.pick Hs33 [_] _ hm33)
 refine CW.abs (fun g => g 0 = (agg u8 nonce) ∧ g 1 = va ∧ g 2 = vc ∧ g 3 = (ptr b3 0) ∧ g 6 = (Value.slice none 0 0) ∧ g 7 = sv33 ∧ g 8 = (i64 0) ∧ g 12 = (bl true) ∧ True) ⟨s0, s1, s2, s3, s6, rfl, rfl, rfl, trivial⟩ ?_
 rintro fr35 ⟨s0, s1, s2, s3, s6, s7, s8, s12, _⟩
 refine cw_region <| rM rfl s8 <| rw_q (v := (i64 (-1))) rfl (ev_i64_sub (a := 0) (b := 1) rfl rfl oM oM) <| rw_q rfl (ev_assign (v := (i64 (-1))) rfl) ?_
 refine rw_nil (kThen_normal (cr_succ (cw_seq (cw_seq (cw_region ?_)))))
 refine rw_q rfl (ev_move (v := (i64 (-1))) rfl) <| rw_q rfl (ev_i64_geq (a := (-1)) (b := 0) rfl rfl) ?_
 refine rw_nil (kThen_normal ?_)
 refine cw_cond_f rfl (by decide) <| cw_exit ?_
 refine kThen_exit (kThen_exit (kBlk_hit ?_))
 refine cw_seq (cw_region ?_)
 refine rM rfl s7 <| rM rfl s1 <| rw_c rfl (or_append (f := u8) (Hs := Hs33) (H := [(b3, .cells (cl u8 nonce) 25 (0, 0))]) hm34 g33 rfl rfl (Rd.ofRest hra hm34) uT26 uT26 ti5 rfl u8_one sD sD) ?_
 rintro sv36 w36 ⟨Hs36, hm36, g36⟩
 replace g36 : Grow u8 5 sv36 (((((((((nonce ++ ([((BitVec.ofInt 64 (la.length : Int)) >>> 56).setWidth 8])) ++ ([((BitVec.ofInt 64 (la.length : Int)) >>> 48).setWidth 8])) ++ ([((BitVec.ofInt 64 (la.length : Int)) >>> 40).setWidth 8])) ++ ([((BitVec.ofInt 64 (la.length : Int)) >>> 32).setWidth 8])) ++ ([((BitVec.ofInt 64 (la.length : Int)) >>> 24).setWidth 8])) ++ ([((BitVec.ofInt 64 (la.length : Int)) >>> 16).setWidth 8])) ++ ([((BitVec.ofInt 64 (la.length : Int)) >>> 8).setWidth 8])) ++ ([((BitVec.ofInt 64 (la.length : Int)) >>> 0).setWidth 8])) ++ la) Hs36 := g36
 refine rM rfl s2 <| rw_c rfl (or_append (f := u8) (Hs := Hs36) (H := [(b3, .cells (cl u8 nonce) 25 (0, 0))]) hm36 g36 rfl rfl (Rd.ofRest hrc hm36) uT26 uT26 ti5 rfl u8_one sD sD) ?_
 rintro sv37 w37 ⟨Hs37, hm37, g37⟩
 replace g37 : Grow u8 5 sv37 ((((((((((nonce ++ ([((BitVec.ofInt 64 (la.length : Int)) >>> 56).setWidth 8])) ++ ([((BitVec.ofInt 64 (la.length : Int)) >>> 48).setWidth 8])) ++ ([((BitVec.ofInt 64 (la.length : Int)) >>> 40).setWidth 8])) ++ ([((BitVec.ofInt 64 (la.length : Int)) >>> 32).setWidth 8])) ++ ([((BitVec.ofInt 64 (la.length : Int)) >>> 24).setWidth 8])) ++ ([((BitVec.ofInt 64 (la.length : Int)) >>> 16).setWidth 8])) ++ ([((BitVec.ofInt 64 (la.length : Int)) >>> 8).setWidth 8])) ++ ([((BitVec.ofInt 64 (la.length : Int)) >>> 0).setWidth 8])) ++ la) ++ lc) Hs37 := g37
 refine rA rfl (v := sv37) rfl ?_
 refine rw_nil (kThen_normal ?_)
 refine CW.abs (fun g => g 0 = (agg u8 nonce) ∧ g 1 = va ∧ g 2 = vc ∧ g 3 = (ptr b3 0) ∧ g 6 = sv37 ∧ g 7 = sv33 ∧ g 8 = (i64 (-1)) ∧ g 12 = (bl false) ∧ True) ⟨s0, s1, s2, s3, rfl, s7, rfl, rfl, trivial⟩ ?_
 rintro fr38 ⟨s0, s1, s2, s3, s6, s7, s8, s12, _⟩
 refine cw_ret <| fnPost_ret [sv37] ⟨s6, trivial⟩ ?_
 have hm39 := Mem.drop ([(b3, .cells (cl u8 nonce) 25 (0, 0))]) _ (Mem.pick Hs37 [_] _ hm37)
 have hfin : (((((((((nonce ++ ([((BitVec.ofInt 64 (la.length : Int)) >>> 56).setWidth 8])) ++ ([((BitVec.ofInt 64 (la.length : Int)) >>> 48).setWidth 8])) ++ ([((BitVec.ofInt 64 (la.length : Int)) >>> 40).setWidth 8])) ++ ([((BitVec.ofInt 64 (la.length : Int)) >>> 32).setWidth 8])) ++ ([((BitVec.ofInt 64 (la.length : Int)) >>> 24).setWidth 8])) ++ ([((BitVec.ofInt 64 (la.length : Int)) >>> 16).setWidth 8])) ++ ([((BitVec.ofInt 64 (la.length : Int)) >>> 8).setWidth 8])) ++ ([((BitVec.ofInt 64 (la.length : Int)) >>> 0).setWidth 8])) ++ la) ++ lc = msgP nonce la lc := by simp [msgP, len8]
 exact ⟨Hs37, hfin ▸ g37, by simpa using hm39⟩

set_option maxHeartbeats 1000000 in
theorem c_rmessage (nonce : List (BitVec 8)) (va : Value) (la : List (BitVec 8)) (vc : Value) (lc : List (BitVec 8)) (w0 : World)  (hn : nonce.length = 12) (hra : Rd (blks w0) u8 va la) (hla : la.length ≤ 1000000) (hrc : Rd (blks w0) u8 vc lc) (hlc : lc.length ≤ 1000000) : CallsR Tryd.prog 17 #[(agg u8 nonce), va, vc] w0 (fun r w1 => ∃ Hs, Grow u8 5 r (msgP nonce la lc) Hs ∧ Mem w1 (restOf w0) Hs) := by
 refine callsR_of_cw (args := [(agg u8 nonce), va, vc]) Tryd.func17 rfl Tryd.ntmps17 Tryd.results17 rfl ?_
 have hm0 : Mem w0 (restOf w0) [] := Mem.of_world w0
 refine cw_seq (cw_region ?_)
 refine rw_c rfl (or_box_agg (f := u8) (l := nonce) hm0 rfl) ?_
 rintro _ w1 ⟨b3, rfl, _ew1, hm1⟩
 refine rw_q rfl (ev_assign (v := (Value.slice none 0 0)) rfl) ?_
 refine rw_nil (kThen_normal (cw_seq (cw_region ?_)))
 refine rw_c rfl (or_buildSlice_cl u8 [] u8_one hm1 uT26 ti5 rfl (by simp [pairs]) rfl) ?_
 rintro _ w2 ⟨b9, rfl, _ew2, hm2⟩
 refine rw_q rfl (ev_slice_sla (i := 0) (j := 12) uT25 ti5 rfl (optI_none _ _) (optI_none _ _) oM sD sD) <| rw_c rfl (or_append (f := u8) (Hs := [(b9, .cells (cl u8 ([])) 5 (0, 0))]) (H := [(b3, .cells (cl u8 nonce) 25 (0, 0))]) hm2 (Grow.of u8 5 b9 ([])) rfl rfl (Rd.slaAll hm2.h1 sD) uT26 uT26 ti5 rfl u8_one sD sD) ?_
 rintro sv3 w3 ⟨Hs3, hm3, g3⟩
 replace g3 : Grow u8 5 sv3 nonce Hs3 := g3
 refine rA rfl (v := sv3) rfl ?_
 refine rw_nil (kThen_normal (cw_seq (cw_seq (cw_region ?_))))
 refine rw_q rfl (ev_assign (v := (i64 7)) rfl) ?_
 refine rw_nil (kThen_normal (cw_block ?_))
 refine cw_rounds 9 ?_
 refine cr_succ (cw_seq (cw_seq (cw_region ?_)))
 refine rw_q rfl (ev_move (v := (i64 7)) rfl) <| rw_q rfl (ev_i64_geq (a := 7) (b := 0) rfl rfl) ?_
 refine rw_nil (kThen_normal ?_)
 refine cw_cond_t rfl (by decide) ?_
 refine cw_skip (kThen_normal (cw_seq (cw_block (cw_region ?_))))
 refine rM rfl (v := sv3) rfl <| rM rfl (v := va) rfl <| rw_q (v := (i64 (la.length : Int))) rfl (ev_len_rd (Rd.ofRest hra hm3) uT26 rfl) <| rw_q rfl (ev_conv_i64_u64 ⟨_, uT3⟩ uT61 rfl) <| rw_q rfl (ev_move (v := (i64 7)) rfl) <| rw_q (v := (i64 56)) rfl (ev_i64_mul (a := 8) (b := 7) rfl rfl oM oM) ?_
 refine rw_q rfl (ev_u64_shr (b := 56) rfl rfl oM) <| rw_q rfl (ev_conv_u64_u8 ⟨_, uT61⟩ uT5 rfl) <| rw_c rfl (or_buildSlice_cl u8 [((BitVec.ofInt 64 (la.length : Int)) >>> 56).setWidth 8] u8_one hm3 uT26 ti5 rfl rfl rfl) ?_
 rintro _ w4 ⟨b24, rfl, _ew4, hm4⟩
 refine rw_c rfl (or_append (f := u8) (Hs := Hs3) (H := [(b24, .cells (cl u8 ([((BitVec.ofInt 64 (la.length : Int)) >>> 56).setWidth 8])) 5 (0, 0)), (b3, .cells (cl u8 nonce) 25 (0, 0))]) (Mem.pick [_] Hs3 _ hm4) g3 rfl rfl (Rd.mkA hm4.h0) uT26 uT26 ti5 rfl u8_one sD sD) ?_
 rintro sv5 w5 ⟨Hs5, hm5, g5⟩
 replace g5 : Grow u8 5 sv5 (nonce ++ ([((BitVec.ofInt 64 (la.length : Int)) >>> 56).setWidth 8])) Hs5 := g5
 refine rA rfl (v := sv5) rfl ?_
 refine rw_nil (kBlk_normal ?_)
 have hm6 := Mem.drop ([(b24, .cells (cl u8 ([((BitVec.ofInt 64 (la.length : Int)) >>> 56).setWidth 8])) 5 (0, 0))]) _ (Mem.pick Hs5 [_] _ hm5)
 refine CW.abs (fun g => g 0 = (agg u8 nonce) ∧ g 1 = va ∧ g 2 = vc ∧ g 3 = (ptr b3 0) ∧ g 6 = (Value.slice none 0 0) ∧ g 7 = sv5 ∧ g 8 = (i64 7) ∧ g 13 = (bl true) ∧ True) ⟨rfl, rfl, rfl, rfl, rfl, rfl, rfl, rfl, trivial⟩ ?_
 rintro fr7 ⟨s0, s1, s2, s3, s6, s7, s8, s13, _⟩
 refine cw_region <| rM rfl s8 <| rw_q (v := (i64 6)) rfl (ev_i64_sub (a := 7) (b := 1) rfl rfl oM oM) <| rw_q rfl (ev_assign (v := (i64 6)) rfl) ?_
 refine rw_nil (kThen_normal (cr_succ (cw_seq (cw_seq (cw_region ?_)))))
 refine rw_q rfl (ev_move (v := (i64 6)) rfl) <| rw_q rfl (ev_i64_geq (a := 6) (b := 0) rfl rfl) ?_
 refine rw_nil (kThen_normal ?_)
 refine cw_cond_t rfl (by decide) ?_
 refine cw_skip (kThen_normal (cw_seq (cw_block (cw_region ?_))))
 refine rM rfl s7 <| rM rfl s1 <| rw_q (v := (i64 (la.length : Int))) rfl (ev_len_rd (Rd.ofRest hra hm6) uT26 rfl) <| rw_q rfl (ev_conv_i64_u64 ⟨_, uT3⟩ uT61 rfl) <| rw_q rfl (ev_move (v := (i64 6)) rfl) <| rw_q (v := (i64 48)) rfl (ev_i64_mul (a := 8) (b := 6) rfl rfl oM oM) ?_
 refine rw_q rfl (ev_u64_shr (b := 48) rfl rfl oM) <| rw_q rfl (ev_conv_u64_u8 ⟨_, uT61⟩ uT5 rfl) <| rw_c rfl (or_buildSlice_cl u8 [((BitVec.ofInt 64 (la.length : Int)) >>> 48).setWidth 8] u8_one hm6 uT26 ti5 rfl rfl rfl) ?_
 rintro _ w8 ⟨b24_1, rfl, _ew8, hm8⟩
 refine rw_c rfl (or_append (f := u8) (Hs := Hs5) (H := [(b24_1, .cells (cl u8 ([((BitVec.ofInt 64 (la.length : Int)) >>> 48).setWidth 8])) 5 (0, 0)), (b3, .cells (cl u8 nonce) 25 (0, 0))]) (Mem.pick [_] Hs5 _ hm8) g5 rfl rfl (Rd.mkA hm8.h0) uT26 uT26 ti5 rfl u8_one sD sD) ?_
 rintro sv9 w9 ⟨Hs9, hm9, g9⟩
 replace g9 : Grow u8 5 sv9 ((nonce ++ ([((BitVec.ofInt 64 (la.length : Int)) >>> 56).setWidth 8])) ++ ([((BitVec.ofInt 64 (la.length : Int)) >>> 48).setWidth 8])) Hs9 := g9
 refine rA rfl (v := sv9) rfl ?_
 refine rw_nil (kBlk_normal ?_)
 have hm10 := Mem.drop ([(b24_1, .cells (cl u8 ([((BitVec.ofInt 64 (la.length : Int)) >>> 48).setWidth 8])) 5 (0, 0))]) _ (Mem.pick Hs9 [_] _ hm9)
 refine CW.abs (fun g => g 0 = (agg u8 nonce) ∧ g 1 = va ∧ g 2 = vc ∧ g 3 = (ptr b3 0) ∧ g 6 = (Value.slice none 0 0) ∧ g 7 = sv9 ∧ g 8 = (i64 6) ∧ g 13 = (bl true) ∧ True) ⟨s0, s1, s2, s3, s6, rfl, rfl, rfl, trivial⟩ ?_
 rintro fr11 ⟨s0, s1, s2, s3, s6, s7, s8, s13, _⟩
 refine cw_region <| rM rfl s8 <| rw_q (v := (i64 5)) rfl (ev_i64_sub (a := 6) (b := 1) rfl rfl oM oM) <| rw_q rfl (ev_assign (v := (i64 5)) rfl) ?_
 refine rw_nil (kThen_normal (cr_succ (cw_seq (cw_seq (cw_region ?_)))))
 refine rw_q rfl (ev_move (v := (i64 5)) rfl) <| rw_q rfl (ev_i64_geq (a := 5) (b := 0) rfl rfl) ?_
 refine rw_nil (kThen_normal ?_)
 refine cw_cond_t rfl (by decide) ?_
 refine cw_skip (kThen_normal (cw_seq (cw_block (cw_region ?_))))
 refine rM rfl s7 <| rM rfl s1 <| rw_q (v := (i64 (la.length : Int))) rfl (ev_len_rd (Rd.ofRest hra hm10) uT26 rfl) <| rw_q rfl (ev_conv_i64_u64 ⟨_, uT3⟩ uT61 rfl) <| rw_q rfl (ev_move (v := (i64 5)) rfl) <| rw_q (v := (i64 40)) rfl (ev_i64_mul (a := 8) (b := 5) rfl rfl oM oM) ?_
 refine rw_q rfl (ev_u64_shr (b := 40) rfl rfl oM) <| rw_q rfl (ev_conv_u64_u8 ⟨_, uT61⟩ uT5 rfl) <| rw_c rfl (or_buildSlice_cl u8 [((BitVec.ofInt 64 (la.length : Int)) >>> 40).setWidth 8] u8_one hm10 uT26 ti5 rfl rfl rfl) ?_
 rintro _ w12 ⟨b24_2, rfl, _ew12, hm12⟩
 refine rw_c rfl (or_append (f := u8) (Hs := Hs9) (H := [(b24_2, .cells (cl u8 ([((BitVec.ofInt 64 (la.length : Int)) >>> 40).setWidth 8])) 5 (0, 0)), (b3, .cells (cl u8 nonce) 25 (0, 0))]) (Mem.pick [_] Hs9 _ hm12) g9 rfl rfl (Rd.mkA hm12.h0) uT26 uT26 ti5 rfl u8_one sD sD) ?_
 rintro sv13 w13 ⟨Hs13, hm13, g13⟩
 replace g13 : Grow u8 5 sv13 (((nonce ++ ([((BitVec.ofInt 64 (la.length : Int)) >>> 56).setWidth 8])) ++ ([((BitVec.ofInt 64 (la.length : Int)) >>> 48).setWidth 8])) ++ ([((BitVec.ofInt 64 (la.length : Int)) >>> 40).setWidth 8])) Hs13 := g13
 refine rA rfl (v := sv13) rfl ?_
 refine rw_nil (kBlk_normal ?_)
 have hm14 := Mem.drop ([(b24_2, .cells (cl u8 ([((BitVec.ofInt 64 (la.length : Int)) >>> 40).setWidth 8])) 5 (0, 0))]) _ (Mem.pick Hs13 [_] _ hm13)
 refine CW.abs (fun g => g 0 = (agg u8 nonce) ∧ g 1 = va ∧ g 2 = vc ∧ g 3 = (ptr b3 0) ∧ g 6 = (Value.slice none 0 0) ∧ g 7 = sv13 ∧ g 8 = (i64 5) ∧ g 13 = (bl true) ∧ True) ⟨s0, s1, s2, s3, s6, rfl, rfl, rfl, trivial⟩ ?_
 rintro fr15 ⟨s0, s1, s2, s3, s6, s7, s8, s13, _⟩
 refine cw_region <| rM rfl s8 <| rw_q (v := (i64 4)) rfl (ev_i64_sub (a := 5) (b := 1) rfl rfl oM oM) <| rw_q rfl (ev_assign (v := (i64 4)) rfl) ?_
 refine rw_nil (kThen_normal (cr_succ (cw_seq (cw_seq (cw_region ?_)))))
 refine rw_q rfl (ev_move (v := (i64 4)) rfl) <| rw_q rfl (ev_i64_geq (a := 4) (b := 0) rfl rfl) ?_
 refine rw_nil (kThen_normal ?_)
 refine cw_cond_t rfl (by decide) ?_
 refine cw_skip (kThen_normal (cw_seq (cw_block (cw_region ?_))))
 refine rM rfl s7 <| rM rfl s1 <| rw_q (v := (i64 (la.length : Int))) rfl (ev_len_rd (Rd.ofRest hra hm14) uT26 rfl) <| rw_q rfl (ev_conv_i64_u64 ⟨_, uT3⟩ uT61 rfl) <| rw_q rfl (ev_move (v := (i64 4)) rfl) <| rw_q (v := (i64 32)) rfl (ev_i64_mul (a := 8) (b := 4) rfl rfl oM oM) ?_
 refine rw_q rfl (ev_u64_shr (b := 32) rfl rfl oM) <| rw_q rfl (ev_conv_u64_u8 ⟨_, uT61⟩ uT5 rfl) <| rw_c rfl (or_buildSlice_cl u8 [((BitVec.ofInt 64 (la.length : Int)) >>> 32).setWidth 8] u8_one hm14 uT26 ti5 rfl rfl rfl) ?_
 rintro _ w16 ⟨b24_3, rfl, _ew16, hm16⟩
 refine rw_c rfl (or_append (f := u8) (Hs := Hs13) (H := [(b24_3, .cells (cl u8 ([((BitVec.ofInt 64 (la.length : Int)) >>> 32).setWidth 8])) 5 (0, 0)), (b3, .cells (cl u8 nonce) 25 (0, 0))]) (Mem.pick [_] Hs13 _ hm16) g13 rfl rfl (Rd.mkA hm16.h0) uT26 uT26 ti5 rfl u8_one sD sD) ?_
 rintro sv17 w17 ⟨Hs17, hm17, g17⟩
 replace g17 : Grow u8 5 sv17 ((((nonce ++ ([((BitVec.ofInt 64 (la.length : Int)) >>> 56).setWidth 8])) ++ ([((BitVec.ofInt 64 (la.length : Int)) >>> 48).setWidth 8])) ++ ([((BitVec.ofInt 64 (la.length : Int)) >>> 40).setWidth 8])) ++ ([((BitVec.ofInt 64 (la.length : Int)) >>> 32).setWidth 8])) Hs17 := g17
 refine rA rfl (v := sv17) rfl ?_
 refine rw_nil (kBlk_normal ?_)
 have hm18 := Mem.drop ([(b24_3, .cells (cl u8 ([((BitVec.ofInt 64 (la.length : Int)) >>> 32).setWidth 8])) 5 (0, 0))]) _ (Mem.pick Hs17 [_] _ hm17)
 refine CW.abs (fun g => g 0 = (agg u8 nonce) ∧ g 1 = va ∧ g 2 = vc ∧ g 3 = (ptr b3 0) ∧ g 6 = (Value.slice none 0 0) ∧ g 7 = sv17 ∧ g 8 = (i64 4) ∧ g 13 = (bl true) ∧ True) ⟨s0, s1, s2, s3, s6, rfl, rfl, rfl, trivial⟩ ?_
 rintro fr19 ⟨s0, s1, s2, s3, s6, s7, s8, s13, _⟩
 refine cw_region <| rM rfl s8 <| rw_q (v := (i64 3)) rfl (ev_i64_sub (a := 4) (b := 1) rfl rfl oM oM) <| rw_q rfl (ev_assign (v := (i64 3)) rfl) ?_
 refine rw_nil (kThen_normal (cr_succ (cw_seq (cw_seq (cw_region ?_)))))
 refine rw_q rfl (ev_move (v := (i64 3)) rfl) <| rw_q rfl (ev_i64_geq (a := 3) (b := 0) rfl rfl) ?_
 refine rw_nil (kThen_normal ?_)
 refine cw_cond_t rfl (by decide) ?_
 refine cw_skip (kThen_normal (cw_seq (cw_block (cw_region ?_))))
 refine rM rfl s7 <| rM rfl s1 <| rw_q (v := (i64 (la.length : Int))) rfl (ev_len_rd (Rd.ofRest hra hm18) uT26 rfl) <| rw_q rfl (ev_conv_i64_u64 ⟨_, uT3⟩ uT61 rfl) <| rw_q rfl (ev_move (v := (i64 3)) rfl) <| rw_q (v := (i64 24)) rfl (ev_i64_mul (a := 8) (b := 3) rfl rfl oM oM) ?_
 refine rw_q rfl (ev_u64_shr (b := 24) rfl rfl oM) <| rw_q rfl (ev_conv_u64_u8 ⟨_, uT61⟩ uT5 rfl) <| rw_c rfl (or_buildSlice_cl u8 [((BitVec.ofInt 64 (la.length : Int)) >>> 24).setWidth 8] u8_one hm18 uT26 ti5 rfl rfl rfl) ?_
 rintro _ w20 ⟨b24_4, rfl, _ew20, hm20⟩
 refine rw_c rfl (or_append (f := u8) (Hs := Hs17) (H := [(b24_4, .cells (cl u8 ([((BitVec.ofInt 64 (la.length : Int)) >>> 24).setWidth 8])) 5 (0, 0)), (b3, .cells (cl u8 nonce) 25 (0, 0))]) (Mem.pick [_] Hs17 _ hm20) g17 rfl rfl (Rd.mkA hm20.h0) uT26 uT26 ti5 rfl u8_one sD sD) ?_
 rintro sv21 w21 ⟨Hs21, hm21, g21⟩
 replace g21 : Grow u8 5 sv21 (((((nonce ++ ([((BitVec.ofInt 64 (la.length : Int)) >>> 56).setWidth 8])) ++ ([((BitVec.ofInt 64 (la.length : Int)) >>> 48).setWidth 8])) ++ ([((BitVec.ofInt 64 (la.length : Int)) >>> 40).setWidth 8])) ++ ([((BitVec.ofInt 64 (la.length : Int)) >>> 32).setWidth 8])) ++ ([((BitVec.ofInt 64 (la.length : Int)) >>> 24).setWidth 8])) Hs21 := g21
 refine rA rfl (v := sv21) rfl ?_
 refine rw_nil (kBlk_normal ?_)
 have hm22 := Mem.drop ([(b24_4, .cells (cl u8 ([((BitVec.ofInt 64 (la.length : Int)) >>> 24).setWidth 8])) 5 (0, 0))]) _ (Mem.pick Hs21 [_] _ hm21)
 refine CW.abs (fun g => g 0 = (agg u8 nonce) ∧ g 1 = va ∧ g 2 = vc ∧ g 3 = (ptr b3 0) ∧ g 6 = (Value.slice none 0 0) ∧ g 7 = sv21 ∧ g 8 = (i64 3) ∧ g 13 = (bl true) ∧ True) ⟨s0, s1, s2, s3, s6, rfl, rfl, rfl, trivial⟩ ?_
 rintro fr23 ⟨s0, s1, s2, s3, s6, s7, s8, s13, _⟩
 refine cw_region <| rM rfl s8 <| rw_q (v := (i64 2)) rfl (ev_i64_sub (a := 3) (b := 1) rfl rfl oM oM) <| rw_q rfl (ev_assign (v := (i64 2)) rfl) ?_
 refine rw_nil (kThen_normal (cr_succ (cw_seq (cw_seq (cw_region ?_)))))
 refine rw_q rfl (ev_move (v := (i64 2)) rfl) <| rw_q rfl (ev_i64_geq (a := 2) (b := 0) rfl rfl) ?_
 refine rw_nil (kThen_normal ?_)
 refine cw_cond_t rfl (by decide) ?_
 refine cw_skip (kThen_normal (cw_seq (cw_block (cw_region ?_))))
 refine rM rfl s7 <| rM rfl s1 <| rw_q (v := (i64 (la.length : Int))) rfl (ev_len_rd (Rd.ofRest hra hm22) uT26 rfl) <| rw_q rfl (ev_conv_i64_u64 ⟨_, uT3⟩ uT61 rfl) <| rw_q rfl (ev_move (v := (i64 2)) rfl) <| rw_q (v := (i64 16)) rfl (ev_i64_mul (a := 8) (b := 2) rfl rfl oM oM) ?_
 refine rw_q rfl (ev_u64_shr (b := 16) rfl rfl oM) <| rw_q rfl (ev_conv_u64_u8 ⟨_, uT61⟩ uT5 rfl) <| rw_c rfl (or_buildSlice_cl u8 [((BitVec.ofInt 64 (la.length : Int)) >>> 16).setWidth 8] u8_one hm22 uT26 ti5 rfl rfl rfl) ?_
 rintro _ w24 ⟨b24_5, rfl, _ew24, hm24⟩
 refine rw_c rfl (or_append (f := u8) (Hs := Hs21) (H := [(b24_5, .cells (cl u8 ([((BitVec.ofInt 64 (la.length : Int)) >>> 16).setWidth 8])) 5 (0, 0)), (b3, .cells (cl u8 nonce) 25 (0, 0))]) (Mem.pick [_] Hs21 _ hm24) g21 rfl rfl (Rd.mkA hm24.h0) uT26 uT26 ti5 rfl u8_one sD sD) ?_
 rintro sv25 w25 ⟨Hs25, hm25, g25⟩
 replace g25 : Grow u8 5 sv25 ((((((nonce ++ ([((BitVec.ofInt 64 (la.length : Int)) >>> 56).setWidth 8])) ++ ([((BitVec.ofInt 64 (la.length : Int)) >>> 48).setWidth 8])) ++ ([((BitVec.ofInt 64 (la.length : Int)) >>> 40).setWidth 8])) ++ ([((BitVec.ofInt 64 (la.length : Int)) >>> 32).setWidth 8])) ++ ([((BitVec.ofInt 64 (la.length : Int)) >>> 24).setWidth 8])) ++ ([((BitVec.ofInt 64 (la.length : Int)) >>> 16).setWidth 8])) Hs25 := g25
 refine rA rfl (v := sv25) rfl ?_
 refine rw_nil (kBlk_normal ?_)
 have hm26 := Mem.drop ([(b24_5, .cells (cl u8 ([((BitVec.ofInt 64 (la.length : Int)) >>> 16).setWidth 8])) 5 (0, 0))]) _ (Mem.pick Hs25 [_] _ hm25)
 refine CW.abs (fun g => g 0 = (agg u8 nonce) ∧ g 1 = va ∧ g 2 = vc ∧ g 3 = (ptr b3 0) ∧ g 6 = (Value.slice none 0 0) ∧ g 7 = sv25 ∧ g 8 = (i64 2) ∧ g 13 = (bl true) ∧ True) ⟨s0, s1, s2, s3, s6, rfl, rfl, rfl, trivial⟩ ?_
 rintro fr27 ⟨s0, s1, s2, s3, s6, s7, s8, s13, _⟩
 refine cw_region <| rM rfl s8 <| rw_q (v := (i64 1)) rfl (ev_i64_sub (a := 2) (b := 1) rfl rfl oM oM) <| rw_q rfl (ev_assign (v := (i64 1)) rfl) ?_
 refine rw_nil (kThen_normal (cr_succ (cw_seq (cw_seq (cw_region ?_)))))
 refine rw_q rfl (ev_move (v := (i64 1)) rfl) <| rw_q rfl (ev_i64_geq (a := 1) (b := 0) rfl rfl) ?_
 refine rw_nil (kThen_normal ?_)
 refine cw_cond_t rfl (by decide) ?_
 refine cw_skip (kThen_normal (cw_seq (cw_block (cw_region ?_))))
 refine rM rfl s7 <| rM rfl s1 <| rw_q (v := (i64 (la.length : Int))) rfl (ev_len_rd (Rd.ofRest hra hm26) uT26 rfl) <| rw_q rfl (ev_conv_i64_u64 ⟨_, uT3⟩ uT61 rfl) <| rw_q rfl (ev_move (v := (i64 1)) rfl) <| rw_q (v := (i64 8)) rfl (ev_i64_mul (a := 8) (b := 1) rfl rfl oM oM) ?_
 refine rw_q rfl (ev_u64_shr (b := 8) rfl rfl oM) <| rw_q rfl (ev_conv_u64_u8 ⟨_, uT61⟩ uT5 rfl) <| rw_c rfl (or_buildSlice_cl u8 [((BitVec.ofInt 64 (la.length : Int)) >>> 8).setWidth 8] u8_one hm26 uT26 ti5 rfl rfl rfl) ?_
 rintro _ w28 ⟨b24_6, rfl, _ew28, hm28⟩
 refine rw_c rfl (or_append (f := u8) (Hs := Hs25) (H := [(b24_6, .cells (cl u8 ([((BitVec.ofInt 64 (la.length : Int)) >>> 8).setWidth 8])) 5 (0, 0)), (b3, .cells (cl u8 nonce) 25 (0, 0))]) (Mem.pick [_] Hs25 _ hm28) g25 rfl rfl (Rd.mkA hm28.h0) uT26 uT26 ti5 rfl u8_one sD sD) ?_
 rintro sv29 w29 ⟨Hs29, hm29, g29⟩
 replace g29 : Grow u8 5 sv29 (((((((nonce ++ ([((BitVec.ofInt 64 (la.length : Int)) >>> 56).setWidth 8])) ++ ([((BitVec.ofInt 64 (la.length : Int)) >>> 48).setWidth 8])) ++ ([((BitVec.ofInt 64 (la.length : Int)) >>> 40).setWidth 8])) ++ ([((BitVec.ofInt 64 (la.length : Int)) >>> 32).setWidth 8])) ++ ([((BitVec.ofInt 64 (la.length : Int)) >>> 24).setWidth 8])) ++ ([((BitVec.ofInt 64 (la.length : Int)) >>> 16).setWidth 8])) ++ ([((BitVec.ofInt 64 (la.length : Int)) >>> 8).setWidth 8])) Hs29 := g29
 refine rA rfl (v := sv29) rfl ?_
 refine rw_nil (kBlk_normal ?_)
 have hm30 := Mem.drop ([(b24_6, .cells (cl u8 ([((BitVec.ofInt 64 (la.length : Int)) >>> 8).setWidth 8])) 5 (0, 0))]) _ (Mem.pick Hs29 [_] _ hm29)
 refine CW.abs (fun g => g 0 = (agg u8 nonce) ∧ g 1 = va ∧ g 2 = vc ∧ g 3 = (ptr b3 0) ∧ g 6 = (Value.slice none 0 0) ∧ g 7 = sv29 ∧ g 8 = (i64 1) ∧ g 13 = (bl true) ∧ True) ⟨s0, s1, s2, s3, s6, rfl, rfl, rfl, trivial⟩ ?_
 rintro fr31 ⟨s0, s1, s2, s3, s6, s7, s8, s13, _⟩
 refine cw_region <| rM rfl s8 <| rw_q (v := (i64 0)) rfl (ev_i64_sub (a := 1) (b := 1) rfl rfl oM oM) <| rw_q rfl (ev_assign (v := (i64 0)) rfl) ?_
 refine rw_nil (kThen_normal (cr_succ (cw_seq (cw_seq (cw_region ?_)))))
 refine rw_q rfl (ev_move (v := (i64 0)) rfl) <| rw_q rfl (ev_i64_geq (a := 0) (b := 0) rfl rfl) ?_
 refine rw_nil (kThen_normal ?_)
 refine cw_cond_t rfl (by decide) ?_
 refine cw_skip (kThen_normal (cw_seq (cw_block (cw_region ?_))))
 refine rM rfl s7 <| rM rfl s1 <| rw_q (v := (i64 (la.length : Int))) rfl (ev_len_rd (Rd.ofRest hra hm30) uT26 rfl) <| rw_q rfl (ev_conv_i64_u64 ⟨_, uT3⟩ uT61 rfl) <| rw_q rfl (ev_move (v := (i64 0)) rfl) <| rw_q (v := (i64 0)) rfl (ev_i64_mul (a := 8) (b := 0) rfl rfl oM oM) ?_
 refine rw_q rfl (ev_u64_shr (b := 0) rfl rfl oM) <| rw_q rfl (ev_conv_u64_u8 ⟨_, uT61⟩ uT5 rfl) <| rw_c rfl (or_buildSlice_cl u8 [((BitVec.ofInt 64 (la.length : Int)) >>> 0).setWidth 8] u8_one hm30 uT26 ti5 rfl rfl rfl) ?_
 rintro _ w32 ⟨b24_7, rfl, _ew32, hm32⟩
 refine rw_c rfl (or_append (f := u8) (Hs := Hs29) (H := [(b24_7, .cells (cl u8 ([((BitVec.ofInt 64 (la.length : Int)) >>> 0).setWidth 8])) 5 (0, 0)), (b3, .cells (cl u8 nonce) 25 (0, 0))]) (Mem.pick [_] Hs29 _ hm32) g29 rfl rfl (Rd.mkA hm32.h0) uT26 uT26 ti5 rfl u8_one sD sD) ?_
 rintro sv33 w33 ⟨Hs33, hm33, g33⟩
 replace g33 : Grow u8 5 sv33 ((((((((nonce ++ ([((BitVec.ofInt 64 (la.length : Int)) >>> 56).setWidth 8])) ++ ([((BitVec.ofInt 64 (la.length : Int)) >>> 48).setWidth 8])) ++ ([((BitVec.ofInt 64 (la.length : Int)) >>> 40).setWidth 8])) ++ ([((BitVec.ofInt 64 (la.length : Int)) >>> 32).setWidth 8])) ++ ([((BitVec.ofInt 64 (la.length : Int)) >>> 24).setWidth 8])) ++ ([((BitVec.ofInt 64 (la.length : Int)) >>> 16).setWidth 8])) ++ ([((BitVec.ofInt 64 (la.length : Int)) >>> 8).setWidth 8])) ++ ([((BitVec.ofInt 64 (la.length : Int)) >>> 0).setWidth 8])) Hs33 := g33
 refine rA rfl (v := sv33) rfl ?_
 refine rw_nil (kBlk_normal ?_)
 have hm34 := Mem.drop ([(b24_7, .cells (cl u8 ([((BitVec.ofInt 64 (la.length : Int)) >>> 0).setWidth 8])) 5 (0, 0))]) _ (Mem.pick Hs33 [_] _ hm33)
 refine CW.abs (fun g => g 0 = (agg u8 nonce) ∧ g 1 = va ∧ g 2 = vc ∧ g 3 = (ptr b3 0) ∧ g 6 = (Value.slice none 0 0) ∧ g 7 = sv33 ∧ g 8 = (i64 0) ∧ g 13 = (bl true) ∧ True) ⟨s0, s1, s2, s3, s6, rfl, rfl, rfl, trivial⟩ ?_
 rintro fr35 ⟨s0, s1, s2, s3, s6, s7, s8, s13, _⟩
 refine cw_region <| rM rfl s8 <| rw_q (v := (i64 (-1))) rfl (ev_i64_sub (a := 0) (b := 1) rfl rfl oM oM) <| rw_q rfl (ev_assign (v := (i64 (-1))) rfl) ?_
 refine rw_nil (kThen_normal (cr_succ (cw_seq (cw_seq (cw_region ?_)))))
 refine rw_q rfl (ev_move (v := (i64 (-1))) rfl) <| rw_q rfl (ev_i64_geq (a := (-1)) (b := 0) rfl rfl) ?_
 refine rw_nil (kThen_normal ?_)
 refine cw_cond_f rfl (by decide) <| cw_exit ?_
 refine kThen_exit (kThen_exit (kBlk_hit ?_))
 refine cw_seq (cw_region ?_)
 refine rM rfl s7 <| rM rfl s1 <| rw_c rfl (or_append (f := u8) (Hs := Hs33) (H := [(b3, .cells (cl u8 nonce) 25 (0, 0))]) hm34 g33 rfl rfl (Rd.ofRest hra hm34) uT26 uT26 ti5 rfl u8_one sD sD) ?_
 rintro sv36 w36 ⟨Hs36, hm36, g36⟩
 replace g36 : Grow u8 5 sv36 (((((((((nonce ++ ([((BitVec.ofInt 64 (la.length : Int)) >>> 56).setWidth 8])) ++ ([((BitVec.ofInt 64 (la.length : Int)) >>> 48).setWidth 8])) ++ ([((BitVec.ofInt 64 (la.length : Int)) >>> 40).setWidth 8])) ++ ([((BitVec.ofInt 64 (la.length : Int)) >>> 32).setWidth 8])) ++ ([((BitVec.ofInt 64 (la.length : Int)) >>> 24).setWidth 8])) ++ ([((BitVec.ofInt 64 (la.length : Int)) >>> 16).setWidth 8])) ++ ([((BitVec.ofInt 64 (la.length : Int)) >>> 8).setWidth 8])) ++ ([((BitVec.ofInt 64 (la.length : Int)) >>> 0).setWidth 8])) ++ la) Hs36 := g36
 refine rA rfl (v := sv36) rfl ?_
 refine rw_nil (kThen_normal (cw_seq (cw_region ?_)))
 refine rM rfl (v := sv36) rfl <| rM rfl s2 <| rw_c rfl (or_append (f := u8) (Hs := Hs36) (H := [(b3, .cells (cl u8 nonce) 25 (0, 0))]) hm36 g36 rfl rfl (Rd.ofRest hrc hm36) uT26 uT26 ti5 rfl u8_one sD sD) ?_
 rintro sv37 w37 ⟨Hs37, hm37, g37⟩
 replace g37 : Grow u8 5 sv37 ((((((((((nonce ++ ([((BitVec.ofInt 64 (la.length : Int)) >>> 56).setWidth 8])) ++ ([((BitVec.ofInt 64 (la.length : Int)) >>> 48).setWidth 8])) ++ ([((BitVec.ofInt 64 (la.length : Int)) >>> 40).setWidth 8])) ++ ([((BitVec.ofInt 64 (la.length : Int)) >>> 32).setWidth 8])) ++ ([((BitVec.ofInt 64 (la.length : Int)) >>> 24).setWidth 8])) ++ ([((BitVec.ofInt 64 (la.length : Int)) >>> 16).setWidth 8])) ++ ([((BitVec.ofInt 64 (la.length : Int)) >>> 8).setWidth 8])) ++ ([((BitVec.ofInt 64 (la.length : Int)) >>> 0).setWidth 8])) ++ la) ++ lc) Hs37 := g37
 refine rA rfl (v := sv37) rfl ?_
 refine rw_nil (kThen_normal ?_)
 refine CW.abs (fun g => g 0 = (agg u8 nonce) ∧ g 1 = va ∧ g 2 = vc ∧ g 3 = (ptr b3 0) ∧ g 6 = sv37 ∧ g 7 = sv36 ∧ g 8 = (i64 (-1)) ∧ g 13 = (bl false) ∧ True) ⟨s0, s1, s2, s3, rfl, rfl, rfl, rfl, trivial⟩ ?_
 rintro fr38 ⟨s0, s1, s2, s3, s6, s7, s8, s13, _⟩
 refine cw_ret <| fnPost_ret [sv37] ⟨s6, trivial⟩ ?_
 have hm39 := Mem.drop ([(b3, .cells (cl u8 nonce) 25 (0, 0))]) _ (Mem.pick Hs37 [_] _ hm37)
 have hfin : (((((((((nonce ++ ([((BitVec.ofInt 64 (la.length : Int)) >>> 56).setWidth 8])) ++ ([((BitVec.ofInt 64 (la.length : Int)) >>> 48).setWidth 8])) ++ ([((BitVec.ofInt 64 (la.length : Int)) >>> 40).setWidth 8])) ++ ([((BitVec.ofInt 64 (la.length : Int)) >>> 32).setWidth 8])) ++ ([((BitVec.ofInt 64 (la.length : Int)) >>> 24).setWidth 8])) ++ ([((BitVec.ofInt 64 (la.length : Int)) >>> 16).setWidth 8])) ++ ([((BitVec.ofInt 64 (la.length : Int)) >>> 8).setWidth 8])) ++ ([((BitVec.ofInt 64 (la.length : Int)) >>> 0).setWidth 8])) ++ la) ++ lc = msgP nonce la lc := by simp [msgP, len8]
 exact ⟨Hs37, hfin ▸ g37, by simpa using hm39⟩


end Go.Proofs.YtmiagmbgfhakgaaDoor

